/- Proved here: a part of the evaluator for the model's functions, and that a call does what it says; the parts are told one by one. No condition. -/
import Derived.Test.YtfnepeilccainaaMn
import Derived.Deep.Slices
import Derived.Deep.Fields
import Derived.OpenShut
import Derived.ChangeOld
import Derived.ChangeSame
import Derived.Lib.SmallJoins
/- Proved here: a text's String and Len, of what the evaluator says. No condition. -/
namespace Go.Proofs.Ytfnepeilccainaa.Den
open Go Go.Proofs
set_option linter.unusedVariables false
set_option linter.unusedSimpArgs false
/-- From some depth on. -/
def Ev {α : Type} (f : Nat → α) (r : α) : Prop := ∃ K, ∀ k, K ≤ k → f k = r
section
variable {α β : Type}
theorem Ev.const (r : α) : Ev (fun _ => r) r := ⟨0, fun _ _ => rfl⟩
theorem Ev.add {f : Nat → α} {r : α} (c : Nat) (h : Ev f r) : Ev (fun k => f (k + c)) r := by
  obtain ⟨K, hK⟩ := h
  exact ⟨K, fun k hk => hK _ (by omega)⟩
theorem Ev.shift {f g : Nat → α} {r : α} {c : Nat} (h : ∀ k, f (k + c) = g k) (hg : Ev g r) : Ev f r := by
  obtain ⟨K, hK⟩ := hg
  refine ⟨K + c, fun k hk => ?_⟩
  obtain ⟨j, rfl⟩ : ∃ j, k = j + c := ⟨k - c, by omega⟩
  rw [h, hK j (by omega)]
theorem Ev.call {n : FuncId} {args : List AV} {o : Out} (c : Nat) (h : Ev (fun k => call C k n args) o) : Ev (fun k => callP C (callF C (k + c)) n args) o := h.add c
theorem Ev.bind {x : Nat → Option α} {f : Nat → α → Option β} {o : α} {r : Option β} (h : Ev x (some o)) (h2 : Ev (fun k => f k o) r) : Ev (fun k => (x k).bind (f k)) r := by
  obtain ⟨K, hK⟩ := h
  obtain ⟨J, hJ⟩ := h2
  refine ⟨K + J, fun k hk => ?_⟩
  show (x k).bind (f k) = r
  rw [hK k (by omega)]
  exact hJ k (by omega)
theorem Ev.pos {p : Prop} [Decidable p] {a b : Nat → α} {r : α} (h : p) (ha : Ev a r) : Ev (fun k => if p then a k else b k) r := by
  simpa only [if_pos h] using ha
theorem Ev.neg {p : Prop} [Decidable p] {a b : Nat → α} {r : α} (h : ¬ p) (ha : Ev b r) : Ev (fun k => if p then a k else b k) r := by
  simpa only [if_neg h] using ha
theorem Ev.of {f : Nat → α} {r : α} (h : ∀ k, f k = r) : Ev f r := ⟨0, fun k _ => h k⟩
end
theorem w64 {x : Int} (h : -9223372036854775808 ≤ x) (h2 : x < 9223372036854775808) : IntKind.wrap .i64 x = x := by
  rw [IntKind.wrap_i64]
  omega
def prt (b : ByteArray) : AV := .g [.s b]
def join : List ByteArray → ByteArray
  | [] => ⟨#[]⟩
  | b :: bs => b ++ join bs
def bs (b : ByteArray) : List AV := b.data.toList.map fun (c : UInt8) => AV.i .u8 (c.toNat : Int)
theorem bs_append (a b : ByteArray) : bs a ++ bs b = bs (a ++ b) := by simp [bs]
theorem bs_length (a : ByteArray) : (bs a).length = a.size := by simp [bs]
theorem bytesOf_bs (a : ByteArray) : bytesOf (bs a) = a := by
  unfold bs
  rw [bytesOf_eq]
theorem bs_isByte (a : ByteArray) : (bs a).all isByte = true := by
  rw [List.all_eq_true]
  intro x hx
  obtain ⟨c, _, rfl⟩ := List.mem_map.mp hx
  have := c.toNat_lt
  simp [isByte]
  omega
theorem app_nil (a : ByteArray) : a ++ (⟨#[]⟩ : ByteArray) = a := ByteArray.append_empty
theorem nil_app (a : ByteArray) : (⟨#[]⟩ : ByteArray) ++ a = a := ByteArray.empty_append
theorem prt_at {ps : List ByteArray} {j : Nat} (h : j < ps.length) : AV.str (AV.fld ((ps.map prt).getD j .u) 0) = ps[j] := by
  simp [List.getD_eq_getElem?_getD, h, prt, AV.fld, AV.str]
theorem drop_at {ps : List ByteArray} {j : Nat} (h : j < ps.length) : ps.drop j = ps[j] :: ps.drop (j + 1) := List.drop_eq_getElem_cons h
theorem l6_ok (x0 : List ByteArray) (x1 : Int) (x2 : ByteArray) (x3 : Int) (x4 x5 : List AV) (hb : x0.length ≤ 16777216) : ∀ (m j : Nat) (acc : ByteArray), j + m = x0.length → acc.size + (join (x0.drop j)).size ≤ 16777216 →
    Ev (fun k => l6 k (x0.map prt) x1 x2 x3 x4 x5 (bs acc) (x0.length : Int) (j : Int)) (some [.s (acc ++ join (x0.drop j)), .g [.l 53 (x0.map prt), .g [.g [], .g [], .i .i64 x1], .s (acc ++ join (x0.drop j)), .g [.g [], .i .u32 1], .l 31 x4, .l 31 x5]]) := by
  intro m
  induction m with
  | zero =>
    intro j acc hj hs
    have hd : x0.drop j = [] := List.drop_eq_nil_of_le (by omega)
    rw [hd] at hs ⊢
    simp only [join, app_nil] at hs ⊢
    refine Ev.shift (fun k => l6_eq k ..) ?_
    refine Ev.neg (by simp; omega) ?_
    refine Ev.pos (decide_eq_true ⟨rfl, by rw [bs_length]; exact Nat.le_trans (Nat.le_add_right _ _) hs, bs_isByte acc⟩) ?_
    rw [bytesOf_bs]
    exact Ev.bind (o := [.i .u32 1]) (Ev.call _ (Ev.shift (fun k => e41 k true) (Ev.const _))) (Ev.const _)
  | succ m ih =>
    intro j acc hj hs
    have hlt : j < x0.length := by omega
    rw [drop_at hlt] at hs ⊢
    simp only [join, ByteArray.size_append] at hs
    refine Ev.shift (fun k => l6_eq k ..) ?_
    refine Ev.pos (by simp; omega) ?_
    refine Ev.pos (by simp; omega) ?_
    have e1 : AV.str (AV.fld ((x0.map prt).getD (Int.toNat (j : Int)) .u) 0) = x0[j] := prt_at hlt
    rw [e1]
    refine Ev.pos ⟨?_, rfl⟩ ?_
    · show (bs acc).length + (bs x0[j]).length ≤ 16777216
      rw [bs_length, bs_length]
      omega
    have e2 : IntKind.wrap .i64 ((j : Int) + (1 : Int)) = ((j + 1 : Nat) : Int) := by rw [w64 (by omega) (by omega)]; omega
    have e3 : (bs acc ++ (x0[j].data.toList.map fun (c : UInt8) => AV.i .u8 (c.toNat : Int))) = bs (acc ++ x0[j]) := bs_append _ _
    rw [e2, e3]
    have := ih (j + 1) (acc ++ x0[j]) (by omega) (by rw [ByteArray.size_append]; omega)
    simp only [join, ← ByteArray.append_assoc]
    exact this.add 7
theorem l5_ok (x0 : List ByteArray) (x1 : Int) (x2 : ByteArray) (x3 : Int) (x4 x5 : List AV) (hb : x0.length ≤ 16777216) (hs : (join x0).size ≤ 16777216) :
    Ev (fun k => l5 k (x0.map prt) x1 x2 x3 x4 x5 [] (((x0.map prt).length : Nat) : Int) (0 : Int)) (some [.s (join x0), .g [.l 53 (x0.map prt), .g [.g [], .g [], .i .i64 x1], .s (join x0), .g [.g [], .i .u32 1], .l 31 x4, .l 31 x5]]) := by
  rw [List.length_map]
  cases x0 with
  | nil =>
    refine Ev.shift (fun k => l5_eq k ..) ?_
    refine Ev.neg (by simp) ?_
    refine Ev.pos (decide_eq_true ⟨rfl, by simp, rfl⟩) ?_
    exact Ev.bind (o := [.i .u32 1]) (Ev.call _ (Ev.shift (fun k => e41 k true) (Ev.const _))) (Ev.const _)
  | cons b x0 =>
    simp only [join, ByteArray.size_append] at hs
    refine Ev.shift (fun k => l5_eq k ..) ?_
    refine Ev.pos (by simp) ?_
    refine Ev.pos (by simp) ?_
    have e1 : AV.str (AV.fld (((b :: x0).map prt).getD (Int.toNat (0 : Int)) .u) 0) = b := rfl
    rw [e1]
    refine Ev.pos ⟨?_, rfl⟩ ?_
    · show 0 + (bs b).length ≤ 16777216
      rw [bs_length]
      omega
    have e2 : IntKind.wrap .i64 ((0 : Int) + (1 : Int)) = ((1 : Nat) : Int) := by rw [w64 (by omega) (by omega)]; rfl
    have e3 : ([] ++ (b.data.toList.map fun (c : UInt8) => AV.i .u8 (c.toNat : Int))) = bs b := rfl
    rw [e2, e3]
    exact (l6_ok (b :: x0) x1 x2 x3 x4 x5 hb x0.length 1 b (by simp; omega) (by simpa using hs)).add 4
/-- An edit. -/
structure Ed where
  at_ : Int
  len : Int
  text : ByteArray
def Ed.av (e : Ed) : AV := .g [.i .i64 e.at_, .i .i64 e.len, .s e.text]
/-- A text's fields. -/
structure Tx where
  ps : List ByteArray
  sz : Int
  wh : ByteArray
  kn : Int
  un : List Ed
  re : List Ed
def Tx.av (t : Tx) : AV := .g [.l 53 (t.ps.map prt), .g [.g [], .g [], .i .i64 t.sz], .s t.wh, .g [.g [], .i .u32 t.kn], .l 31 (t.un.map Ed.av), .l 31 (t.re.map Ed.av)]
structure Good (t : Tx) (now : ByteArray) : Prop where
  eq : join t.ps = now
  sz : t.sz = (now.size : Int)
  wh : t.kn ≠ 0 → t.wh = now
  small : now.size ≤ 4000
theorem string_ok {t : Tx} {now : ByteArray} (h : Good t now) (hb : t.ps.length ≤ 16777216) : ∃ wh kn, Good { t with wh := wh, kn := kn } now ∧ Ev (fun k => call C k 12 [t.av]) (some [.s now, Tx.av { t with wh := wh, kn := kn }]) := by
  by_cases hk : t.kn = 0
  · refine ⟨now, 1, ⟨h.eq, h.sz, fun _ => rfl, h.small⟩, ?_⟩
    refine Ev.shift (fun k => e12 k (t.ps.map prt) t.sz t.wh t.kn (t.un.map Ed.av) (t.re.map Ed.av)) ?_
    refine Ev.pos (by simp [hk]) ?_
    have := l5_ok t.ps t.sz t.wh t.kn (t.un.map Ed.av) (t.re.map Ed.av) hb (by rw [h.eq]; have := h.small; omega)
    rw [h.eq] at this
    exact this.add 0
  · refine ⟨t.wh, t.kn, h, ?_⟩
    refine Ev.shift (fun k => e12 k (t.ps.map prt) t.sz t.wh t.kn (t.un.map Ed.av) (t.re.map Ed.av)) ?_
    refine Ev.neg (by simp [hk]) ?_
    have := h.wh hk
    rw [← this]
    exact Ev.const _
theorem wakes_ok (k : Nat) : call C (k + 120) 8 [] = some [.b true] := by kernel_rfl
theorem wakes_ev : Ev (fun k => call C k 8 []) (some [.b true]) := Ev.shift wakes_ok (Ev.const _)
def fresh (s : ByteArray) : Tx := { ps := [s], sz := (s.size : Int), wh := ⟨#[]⟩, kn := 0, un := [], re := [] }
theorem fresh_good {s : ByteArray} (h : s.size ≤ 4000) : Good (fresh s) s := ⟨app_nil s, rfl, fun q => absurd rfl q, h⟩
theorem eqb (a : ByteArray) : (ByteArray.toList a == ByteArray.toList a) = true := by simp
theorem news_ok (s : ByteArray) : Ev (fun k => call C k 7 [.s s]) (some [.b true]) := by
  refine Ev.shift (fun k => e7 k s) ?_
  refine Ev.bind (Ev.call 23 wakes_ev) ?_
  refine Ev.pos rfl ?_
  by_cases h1 : s.size ≤ 65536
  · refine Ev.neg (by simp; omega) ?_
    by_cases h2 : s.size ≤ 4000
    · refine Ev.neg (by simp; omega) ?_
      refine Ev.pos (by rw [eqb]; rfl) ?_
      refine Ev.neg (by rw [w64 (by omega) (by omega)]; simp) ?_
      refine Ev.neg (by simp; omega) ?_
      obtain ⟨wh, kn, g, hS⟩ := string_ok (fresh_good h2) (by simp [fresh])
      refine Ev.bind (Ev.call 1 hS) ?_
      refine Ev.pos (eqb s) ?_
      refine Ev.bind (Ev.call 1 (Ev.shift (fun k => e18 k ..) (Ev.const _))) ?_
      have e : ((AV.int (List.headD [AV.i .i64 ((s.size : Nat) : Int)] .u)) == ((ByteArray.size s : Nat) : Int)) = true := by simp [AV.int]
      exact Ev.of fun k => by
        show some [AV.b ((AV.int (List.headD [AV.i .i64 ((s.size : Nat) : Int)] .u)) == ((ByteArray.size s : Nat) : Int))] = _
        rw [e]
    · refine Ev.pos (by simp; omega) ?_
      refine Ev.pos (by rw [eqb]; rfl) ?_
      refine Ev.neg (by rw [w64 (by omega) (by omega)]; simp) ?_
      refine Ev.pos (by simp; omega) ?_
      exact Ev.const _
  · refine Ev.pos (by simp; omega) ?_
    exact Ev.bind (Ev.call 20 wakes_ev) (Ev.const _)
end Go.Proofs.Ytfnepeilccainaa.Den

/- Proved here: a text's parts, cut and changed, of what the evaluator says. No condition. -/
namespace Go.Proofs.Ytfnepeilccainaa.Den
open Go Go.Proofs
set_option linter.unusedVariables false
set_option linter.unusedSimpArgs false
/-- A text's bytes, as a list. -/
def lb (b : ByteArray) : List UInt8 := b.data.toList
theorem lb_ext {a b : ByteArray} (h : lb a = lb b) : a = b := by
  obtain ⟨⟨x⟩⟩ := a
  obtain ⟨⟨y⟩⟩ := b
  simp only [lb] at h
  rw [h]
theorem lb_len (a : ByteArray) : (lb a).length = a.size := by simp [lb]
theorem lb_app (a b : ByteArray) : lb (a ++ b) = lb a ++ lb b := by simp [lb]
theorem lb_extract (a : ByteArray) (i j : Nat) : lb (a.extract i j) = ((lb a).drop i).take (j - i) := by
  simp only [lb, ByteArray.data_extract]
  rw [Array.toList_extract]
theorem lb_nil : lb ⟨#[]⟩ = [] := rfl
theorem lb_mk (l : List UInt8) : lb ⟨l.toArray⟩ = l := by simp [lb]
def fits (now : ByteArray) (e : Ed) : Prop := 0 ≤ e.at_ ∧ 0 ≤ e.len ∧ e.at_ ≤ (now.size : Int) ∧ e.len ≤ (now.size : Int) - e.at_
instance (now : ByteArray) (e : Ed) : Decidable (fits now e) := by unfold fits; infer_instance
def code (now : ByteArray) (e : Ed) : Int := if ¬ fits now e then 2 else if 4000 < e.text.size then 3 else if 4000 < (now.size : Int) - e.len + (e.text.size : Int) then 3 else 0
def app (now : ByteArray) (e : Ed) : ByteArray := ⟨((lb now).take e.at_.toNat ++ lb e.text ++ (lb now).drop (e.at_ + e.len).toNat).toArray⟩
def inv (now : ByteArray) (e : Ed) : Ed := ⟨e.at_, (e.text.size : Int), now.extract e.at_.toNat (e.at_ + e.len).toNat⟩
theorem lb_appd (now : ByteArray) (e : Ed) : lb (app now e) = (lb now).take e.at_.toNat ++ lb e.text ++ (lb now).drop (e.at_ + e.len).toNat := lb_mk _
theorem code_zero {now : ByteArray} {e : Ed} (h : code now e = 0) : fits now e ∧ e.text.size ≤ 4000 ∧ (now.size : Int) - e.len + (e.text.size : Int) ≤ 4000 := by
  unfold code at h
  split at h
  · cases h
  split at h
  · cases h
  split at h
  · cases h
  rename_i h1 h2 h3
  exact ⟨Classical.not_not.mp h1, by omega, by omega⟩
theorem zero_code {now : ByteArray} {e : Ed} (h : fits now e) (h1 : e.text.size ≤ 4000) (h2 : (now.size : Int) - e.len + (e.text.size : Int) ≤ 4000) : code now e = 0 := by
  unfold code
  rw [if_neg (by simpa using h), if_neg (by omega), if_neg (by omega)]
theorem app_size {now : ByteArray} {e : Ed} (h : fits now e) : ((app now e).size : Int) = (now.size : Int) - e.len + (e.text.size : Int) := by
  obtain ⟨h1, h2, h3, h4⟩ := h
  rw [← lb_len, lb_appd, List.length_append, List.length_append, List.length_take, List.length_drop, lb_len, lb_len]
  omega
/-- Back again. -/
theorem app_inv {now : ByteArray} {e : Ed} (h : fits now e) : fits (app now e) (inv now e) ∧ app (app now e) (inv now e) = now := by
  have hs := app_size h
  obtain ⟨h1, h2, h3, h4⟩ := h
  refine ⟨⟨h1, by simp [inv], by rw [hs]; simp only [inv]; omega, by rw [hs]; simp only [inv]; omega⟩, lb_ext ?_⟩
  rw [lb_appd, lb_appd]
  simp only [inv]
  rw [lb_extract]
  have e1 : ((lb now).take e.at_.toNat).length = e.at_.toNat := by rw [List.length_take, lb_len]; omega
  have e2 : (e.at_ + (e.text.size : Int)).toNat = e.at_.toNat + (lb e.text).length := by rw [lb_len]; omega
  rw [List.append_assoc ((lb now).take e.at_.toNat), List.take_append, e1]
  rw [e2, List.drop_append, e1, List.drop_append]
  have z1 : (((lb now).take e.at_.toNat).take e.at_.toNat) = (lb now).take e.at_.toNat := by rw [List.take_take]; simp
  rw [z1, Nat.sub_self, List.take_zero, List.append_nil]
  have z5 : ((lb now).take e.at_.toNat).drop (e.at_.toNat + (lb e.text).length) = [] := List.drop_eq_nil_of_le (by rw [e1]; omega)
  have z6 : (lb e.text).drop (e.at_.toNat + (lb e.text).length - e.at_.toNat) = [] := List.drop_eq_nil_of_le (by omega)
  rw [z5, z6, List.nil_append, List.nil_append]
  have z2 : e.at_.toNat + (lb e.text).length - e.at_.toNat - (lb e.text).length = 0 := by omega
  rw [z2, List.drop_zero]
  have z3 : (e.at_ + e.len).toNat = e.at_.toNat + ((e.at_ + e.len).toNat - e.at_.toNat) := by omega
  have z4 : (lb now).drop (e.at_ + e.len).toNat = ((lb now).drop e.at_.toNat).drop ((e.at_ + e.len).toNat - e.at_.toNat) := by
    rw [List.drop_drop, ← z3]
  rw [z4, List.append_assoc, List.take_append_drop, List.take_append_drop]
theorem inv_code {now : ByteArray} {e : Ed} (hn : now.size ≤ 4000) (h : code now e = 0) : code (app now e) (inv now e) = 0 := by
  obtain ⟨h1, h2, h3⟩ := code_zero h
  have hs := app_size h1
  obtain ⟨k1, k2⟩ := app_inv h1
  obtain ⟨a1, a2, a3, a4⟩ := h1
  have e1 : (inv now e).text.size = e.len.toNat := by
    rw [← lb_len]
    simp only [inv]
    rw [lb_extract, List.length_take, List.length_drop, lb_len]
    omega
  refine zero_code k1 (by omega) ?_
  rw [hs, e1]
  simp only [inv]
  omega
theorem fits51 (now : ByteArray) (e : Ed) (hn : now.size ≤ 5000) : Ev (fun k => call C k 51 [.s now, e.av]) (some [.b (decide (fits now e))]) := by
  refine Ev.shift (fun k => e51 k now e.at_ e.len e.text) ?_
  by_cases h1 : 0 ≤ e.at_
  · refine Ev.pos (decide_eq_true h1) ?_
    by_cases h2 : 0 ≤ e.len
    · refine Ev.pos (decide_eq_true h2) ?_
      by_cases h3 : e.at_ ≤ (now.size : Int)
      · refine Ev.pos (decide_eq_true h3) ?_
        rw [w64 (by omega) (by omega)]
        have : decide (e.len ≤ (now.size : Int) - e.at_) = decide (fits now e) := by
          rw [decide_eq_decide]
          exact ⟨fun q => ⟨h1, h2, h3, q⟩, fun q => q.2.2.2⟩
        rw [this]
        exact Ev.const _
      · refine Ev.neg (by simpa using h3) ?_
        rw [decide_eq_false (fun q => h3 q.2.2.1)]
        exact Ev.const _
    · refine Ev.neg (by simpa using h2) ?_
      rw [decide_eq_false (fun q => h2 q.2.1)]
      exact Ev.const _
  · refine Ev.neg (by simpa using h1) ?_
    rw [decide_eq_false (fun q => h1 q.1)]
    exact Ev.const _
theorem fits20 (now : ByteArray) (e : Ed) (hn : now.size ≤ 5000) : Ev (fun k => call C k 20 [.s now, e.av]) (some [.b (decide (fits now e))]) := by
  refine Ev.shift (fun k => e20 k now e.at_ e.len e.text) ?_
  by_cases h1 : 0 ≤ e.at_
  · refine Ev.pos (by simpa using h1) ?_
    by_cases h2 : 0 ≤ e.len
    · refine Ev.pos (by simpa using h2) ?_
      by_cases h3 : e.at_ ≤ (now.size : Int)
      · refine Ev.neg (by simpa using h3) ?_
        rw [w64 (by omega) (by omega)]
        have : decide (e.len ≤ (now.size : Int) - e.at_) = decide (fits now e) := by
          rw [decide_eq_decide]
          exact ⟨fun q => ⟨h1, h2, h3, q⟩, fun q => q.2.2.2⟩
        rw [this]
        exact Ev.const _
      · refine Ev.pos (by simpa using h3) ?_
        rw [decide_eq_false (fun q => h3 q.2.2.1)]
        exact Ev.const _
    · refine Ev.neg (by simpa using h2) ?_
      rw [decide_eq_false (fun q => h2 q.2.1)]
      exact Ev.const _
  · refine Ev.neg (by simpa using h1) ?_
    rw [decide_eq_false (fun q => h1 q.1)]
    exact Ev.const _
def resA (now : ByteArray) (e : Ed) : ByteArray := if code now e = 0 then app now e else ⟨#[]⟩
theorem app_eq {now : ByteArray} {e : Ed} (h : fits now e) : ((now.extract 0 e.at_.toNat ++ e.text) ++ now.extract (e.at_ + e.len).toNat now.size) = app now e := by
  refine lb_ext ?_
  rw [lb_appd, lb_app, lb_app, lb_extract, lb_extract, List.drop_zero, Nat.sub_zero]
  congr 1
  refine List.take_of_length_le ?_
  rw [List.length_drop, lb_len]
  omega
theorem apply44 (now : ByteArray) (e : Ed) (hn : now.size ≤ 4000) : Ev (fun k => call C k 44 [.s now, e.av]) (some [.s (resA now e), .i .i64 (code now e)]) := by
  refine Ev.shift (fun k => e44 k now e.at_ e.len e.text) ?_
  refine Ev.bind (Ev.call 9 (fits51 now e (by omega))) ?_
  by_cases h : fits now e
  · refine Ev.neg (by simp [h, AV.bool]) ?_
    have h' := h
    obtain ⟨a1, a2, a3, a4⟩ := h'
    by_cases h2 : e.text.size ≤ 4000
    · refine Ev.pos (by simp; omega) ?_
      rw [w64 (x := (now.size : Int) - e.len) (by omega) (by omega), w64 (by omega) (by omega)]
      by_cases h3 : (now.size : Int) - e.len + (e.text.size : Int) ≤ 4000
      · refine Ev.neg (by simp; omega) ?_
        have hc := zero_code h h2 h3
        refine Ev.pos ⟨a1, a3⟩ ?_
        refine Ev.pos ?_ ?_
        · rw [ByteArray.size_extract]; omega
        rw [w64 (by omega) (by omega)]
        refine Ev.pos ⟨by omega, by omega⟩ ?_
        refine Ev.pos ?_ ?_
        · rw [ByteArray.size_append, ByteArray.size_extract, ByteArray.size_extract]; omega
        rw [app_eq h]
        unfold resA
        rw [if_pos hc, hc]
        exact Ev.const _
      · refine Ev.pos (by simp; omega) ?_
        have hc : code now e = 3 := by unfold code; rw [if_neg (by simpa using h), if_neg (by omega), if_pos (by omega)]
        unfold resA
        rw [hc]
        exact Ev.const _
    · refine Ev.neg (by simp; omega) ?_
      have hc : code now e = 3 := by unfold code; rw [if_neg (by simpa using h), if_pos (by omega)]
      unfold resA
      rw [hc]
      exact Ev.const _
  · refine Ev.pos (by simp [h, AV.bool]) ?_
    have hc : code now e = 2 := by unfold code; rw [if_pos h]
    unfold resA
    rw [hc]
    exact Ev.const _
def zed : Ed := ⟨0, 0, ⟨#[]⟩⟩
theorem back34 (now : ByteArray) (e : Ed) (hn : now.size ≤ 4000) : Ev (fun k => call C k 34 [.s now, e.av]) (some [(if code now e = 0 then inv now e else zed).av, .i .i64 (code now e)]) := by
  refine Ev.shift (fun k => e34 k now e.at_ e.len e.text) ?_
  refine Ev.bind (Ev.call 7 (apply44 now e hn)) ?_
  by_cases h : code now e = 0
  · refine Ev.neg (by simp [AV.int, h]) ?_
    obtain ⟨⟨a1, a2, a3, a4⟩, h2, h3⟩ := code_zero h
    rw [w64 (by omega) (by omega)]
    refine Ev.pos ⟨by omega, by omega⟩ ?_
    refine Ev.pos ⟨by omega, by omega⟩ ?_
    rw [if_pos h, h]
    exact Ev.const _
  · refine Ev.pos (by simp [AV.int, h]) ?_
    rw [if_neg h]
    exact Ev.const _
end Go.Proofs.Ytfnepeilccainaa.Den

/- Proved here: a text's cut and change, of what the evaluator says. No condition. -/
namespace Go.Proofs.Ytfnepeilccainaa.Den
open Go Go.Proofs
set_option linter.unusedVariables false
set_option linter.unusedSimpArgs false
theorem join_app : ∀ (a b : List ByteArray), join (a ++ b) = join a ++ join b
  | [], b => (nil_app _).symm
  | x :: a, b => by simp only [List.cons_append, join, join_app a b, ByteArray.append_assoc]
theorem join_size_app (a b : List ByteArray) : (join (a ++ b)).size = (join a).size + (join b).size := by rw [join_app, ByteArray.size_append]
theorem take_succ' {ps : List ByteArray} {j : Nat} (h : j < ps.length) : ps.take (j + 1) = ps.take j ++ [ps[j]] := by
  rw [List.take_add_one, List.getElem?_eq_getElem h]
  rfl
/-- How many bytes lie ahead of a part. -/
def ahead (ps : List ByteArray) (j : Nat) : Nat := (join (ps.take j)).size
theorem ahead_succ {ps : List ByteArray} {j : Nat} (h : j < ps.length) : ahead ps (j + 1) = ahead ps j + ps[j].size := by
  unfold ahead
  rw [take_succ' h, join_size_app]
  simp only [join, app_nil]
theorem ahead_mono {ps : List ByteArray} {i j : Nat} (h : i ≤ j) : ahead ps i ≤ ahead ps j := by
  unfold ahead
  have : ps.take j = ps.take i ++ (ps.take j).drop i := by
    conv => lhs; rw [← List.take_append_drop i (ps.take j), List.take_take, Nat.min_eq_left h]
  rw [this, join_size_app]
  omega
theorem ahead_all (ps : List ByteArray) : ahead ps ps.length = (join ps).size := by unfold ahead; rw [List.take_length]
/-- The first part that so many bytes lie ahead of. -/
structure First (ps : List ByteArray) (pos i : Nat) : Prop where
  le : i ≤ ps.length
  eq : ahead ps i = pos
  least : ∀ j, j < i → ahead ps j < pos
theorem split_set {ps : List ByteArray} {j : Nat} {a b : ByteArray} (h : j < ps.length) : ((ps.take (j + 1)) ++ b :: ps.drop (j + 1)).set j a = ps.take j ++ a :: b :: ps.drop (j + 1) := by
  rw [take_succ' h, List.append_assoc, List.set_append_right _ _ (by rw [List.length_take]; omega)]
  have : j - (ps.take j).length = 0 := by rw [List.length_take]; omega
  rw [this]
  rfl
theorem map_split {ps : List ByteArray} {j : Nat} {b : ByteArray} : ((ps.map prt).take j) ++ (AV.g [.s b]) :: ((ps.map prt).drop j) = (ps.take j ++ b :: ps.drop j).map prt := by
  rw [List.map_append, List.map_take, List.map_cons, List.map_drop]
  rfl
abbrev tx (ps : List AV) (x1 : Int) (x2 : ByteArray) (x3 : Int) (x4 x5 : List AV) : AV := .g [.l 53 ps, .g [.g [], .g [], .i .i64 x1], .s x2, .g [.g [], .i .u32 x3], .l 31 x4, .l 31 x5]
theorem cut_loop (ps : List ByteArray) (x1 : Int) (x2 : ByteArray) (x3 : Int) (x4 x5 : List AV) (hb : ps.length ≤ 1000000) (hs : (join ps).size ≤ 4000) (pos : Nat) (hp : pos ≤ (join ps).size) : ∀ (m j : Nat) (rem : Nat), j + m = ps.length → ahead ps j + rem = pos → (∀ j', j' < j → ahead ps j' < pos) →
    ∃ i ps', First ps' pos i ∧ join ps' = join ps ∧ ps'.length ≤ ps.length + 1 ∧ (∀ i0, i0 ≤ ps.length → ahead ps i0 ≤ pos → (∀ j', j' < i0 → ahead ps j' < pos) → i0 ≤ i ∧ ps'.take i0 = ps.take i0) ∧
      Ev (fun k => l4 k (ps.map prt) x1 x2 x3 x4 x5 (rem : Int) (ps.length : Int) (j : Int)) (some [.i .i64 (i : Int), tx (ps'.map prt) x1 x2 x3 x4 x5]) := by
  intro m
  induction m with
  | zero =>
    intro j rem hj hr hl
    have hjl : j = ps.length := by omega
    subst hjl
    rw [ahead_all] at hr
    refine ⟨ps.length, ps, ⟨Nat.le_refl _, by rw [ahead_all]; omega, hl⟩, rfl, by omega, fun i0 h1 _ _ => ⟨h1, rfl⟩, ?_⟩
    refine Ev.shift (fun k => l4_eq k ..) ?_
    refine Ev.neg (by simp) ?_
    rw [List.length_map]
    exact Ev.const _
  | succ m ih =>
    intro j rem hj hr hl
    have hlt : j < ps.length := by omega
    have hsz := ahead_succ hlt
    have htop : ahead ps (j + 1) ≤ (join ps).size := by rw [← ahead_all]; exact ahead_mono (by omega)
    have e1 : AV.str (AV.fld ((ps.map prt).getD (Int.toNat (j : Int)) .u) 0) = ps[j] := prt_at hlt
    have e2 : IntKind.wrap .i64 ((j : Int) + (1 : Int)) = ((j + 1 : Nat) : Int) := by rw [w64 (by omega) (by omega)]; omega
    by_cases h0 : rem = 0
    · subst h0
      refine ⟨j, ps, ⟨by omega, by omega, hl⟩, rfl, by omega, fun i0 h1 h2 h3 => ⟨?_, rfl⟩, ?_⟩
      · apply Classical.byContradiction
        intro q
        have := h3 j (by omega)
        omega
      refine Ev.shift (fun k => l4_eq k ..) ?_
      refine Ev.pos (by simp; omega) ?_
      refine Ev.pos (by simp; omega) ?_
      refine Ev.pos (by simp) ?_
      exact Ev.const _
    by_cases hc : rem < ps[j].size
    · have hps : join (ps.take j ++ ps[j].extract 0 rem :: ps[j].extract rem ps[j].size :: ps.drop (j + 1)) = join ps := by
        conv => rhs; rw [← List.take_append_drop j ps, drop_at hlt]
        rw [join_app, join_app]
        simp only [join]
        refine congrArg _ ?_
        rw [← ByteArray.append_assoc]
        refine congrArg (· ++ _) (lb_ext ?_)
        rw [lb_app, lb_extract, lb_extract, List.drop_zero, Nat.sub_zero, List.take_of_length_le (l := (lb ps[j]).drop rem) (by rw [List.length_drop, lb_len]; omega), List.take_append_drop]
      have htk : ∀ j', j' ≤ j → (ps.take j ++ ps[j].extract 0 rem :: ps[j].extract rem ps[j].size :: ps.drop (j + 1)).take j' = ps.take j' := fun j' hj' => by
        rw [List.take_append_of_le_length (by rw [List.length_take]; omega), List.take_take, Nat.min_eq_left hj']
      have hah : ∀ j', j' ≤ j → ahead (ps.take j ++ ps[j].extract 0 rem :: ps[j].extract rem ps[j].size :: ps.drop (j + 1)) j' = ahead ps j' := fun j' hj' => by
        unfold ahead
        rw [htk j' hj']
      refine ⟨j + 1, ps.take j ++ ps[j].extract 0 rem :: ps[j].extract rem ps[j].size :: ps.drop (j + 1), ⟨?_, ?_, ?_⟩, hps, ?_, ?_, ?_⟩
      · simp; omega
      · have hl' : j < (ps.take j ++ ps[j].extract 0 rem :: ps[j].extract rem ps[j].size :: ps.drop (j + 1)).length := by simp; omega
        rw [ahead_succ hl', hah j (Nat.le_refl _), List.getElem_append_right (by rw [List.length_take]; omega)]
        have : j - (ps.take j).length = 0 := by rw [List.length_take]; omega
        simp only [this, List.getElem_cons_zero, ByteArray.size_extract]
        omega
      · intro j' hj'
        rw [hah j' (by omega)]
        rcases Nat.lt_or_ge j' j with q | q
        · exact hl j' q
        · have : j' = j := by omega
          subst this
          omega
      · simp; omega
      · intro i0 h1 h2 h3
        have hi0 : i0 ≤ j := by
          apply Classical.byContradiction
          intro q
          rcases Nat.lt_or_ge (j + 1) i0 with z | z
          · have := h3 (j + 1) z
            omega
          · have : i0 = j + 1 := by omega
            subst this
            omega
        exact ⟨by omega, htk i0 hi0⟩
      refine Ev.shift (fun k => l4_eq k ..) ?_
      refine Ev.pos (by simp; omega) ?_
      refine Ev.pos (by simp; omega) ?_
      refine Ev.neg (by simp; omega) ?_
      rw [e1, e2]
      refine Ev.pos (by simp; omega) ?_
      refine Ev.pos (by omega) ?_
      refine Ev.pos (by simp; omega) ?_
      refine Ev.pos (by omega) ?_
      refine Ev.pos (by simp; omega) ?_
      have e3 : Int.toNat (((j + 1 : Nat)) : Int) = j + 1 := rfl
      have e4 : Int.toNat (j : Int) = j := rfl
      have e5 : Int.toNat (rem : Int) = rem := rfl
      rw [e3, e4, e5, map_split]
      have e6 : (AV.g [.s (ps[j].extract 0 rem)]) = prt (ps[j].extract 0 rem) := rfl
      rw [e6, ← List.map_set, split_set hlt]
      exact Ev.const _
    · obtain ⟨i, ps', k1, k2, k3, k4, k5⟩ := ih (j + 1) (rem - ps[j].size) (by omega) (by omega) (fun j' hj' => by
        rcases Nat.lt_or_ge j' j with q | q
        · exact hl j' q
        · have : j' = j := by omega
          subst this
          omega)
      refine ⟨i, ps', k1, k2, k3, k4, ?_⟩
      refine Ev.shift (fun k => l4_eq k ..) ?_
      refine Ev.pos (by simp; omega) ?_
      refine Ev.pos (by simp; omega) ?_
      refine Ev.neg (by simp; omega) ?_
      rw [e1, e2]
      refine Ev.neg (by simp; omega) ?_
      have e3 : IntKind.wrap .i64 ((rem : Int) - ((ByteArray.size ps[j] : Nat) : Int)) = ((rem - ps[j].size : Nat) : Int) := by rw [w64 (by omega) (by omega)]; omega
      rw [e3]
      exact k5.add 0
theorem cutx_ok (ps : List ByteArray) (x1 : Int) (x2 : ByteArray) (x3 : Int) (x4 x5 : List AV) (hb : ps.length ≤ 1000000) (hs : (join ps).size ≤ 4000) (pos : Nat) (hp : pos ≤ (join ps).size) :
    ∃ i ps', First ps' pos i ∧ join ps' = join ps ∧ ps'.length ≤ ps.length + 1 ∧ (∀ i0, i0 ≤ ps.length → ahead ps i0 ≤ pos → (∀ j', j' < i0 → ahead ps j' < pos) → i0 ≤ i ∧ ps'.take i0 = ps.take i0) ∧
      Ev (fun k => call C k 35 [tx (ps.map prt) x1 x2 x3 x4 x5, .i .i64 (pos : Int)]) (some [.i .i64 (i : Int), tx (ps'.map prt) x1 x2 x3 x4 x5]) := by
  obtain ⟨i, ps', k1, k2, k3, k4, k5⟩ := cut_loop ps x1 x2 x3 x4 x5 hb hs pos hp ps.length 0 pos (by omega) (by rw [show ahead ps 0 = 0 from rfl]; omega) (fun j' h => by omega)
  refine ⟨i, ps', k1, k2, k3, k4, ?_⟩
  refine Ev.shift (fun k => e35 k ..) ?_
  rw [List.length_map]
  exact k5.add 0
end Go.Proofs.Ytfnepeilccainaa.Den

/- Proved here: a text's changes, its Edit, Undo and Redo, of what the evaluator says. No condition. -/
namespace Go.Proofs.Ytfnepeilccainaa.Den
open Go Go.Proofs
set_option linter.unusedVariables false
set_option linter.unusedSimpArgs false
theorem First.parts {ps : List ByteArray} {pos i : Nat} (h : First ps pos i) : lb (join (ps.take i)) = (lb (join ps)).take pos ∧ lb (join (ps.drop i)) = (lb (join ps)).drop pos := by
  have e : lb (join ps) = lb (join (ps.take i)) ++ lb (join (ps.drop i)) := by
    rw [← lb_app, ← join_app, List.take_append_drop]
  have hl : (lb (join (ps.take i))).length = pos := by rw [lb_len]; exact h.eq
  rw [e]
  generalize lb (join (ps.take i)) = X at hl ⊢
  generalize lb (join (ps.drop i)) = Y
  subst hl
  exact ⟨by rw [List.take_append_of_le_length (Nat.le_refl _), List.take_length], by simp⟩
def nx (now : ByteArray) (e : Ed) : ByteArray := if code now e = 0 then app now e else now
theorem nx_small {now : ByteArray} {e : Ed} (hn : now.size ≤ 4000) : (nx now e).size ≤ 4000 := by
  unfold nx
  split
  · rename_i h
    obtain ⟨h1, h2, h3⟩ := code_zero h
    have := app_size h1
    omega
  · exact hn
theorem change_ok {t : Tx} {now : ByteArray} (h : Good t now) (hb : t.ps.length ≤ 900000) (e : Ed) :
    ∃ t', Good t' (nx now e) ∧ t'.un = t.un ∧ t'.re = t.re ∧ t'.ps.length ≤ t.ps.length + 3 ∧ Ev (fun k => call C k 22 [t.av, e.av]) (some [(if code now e = 0 then inv now e else zed).av, .i .i64 (code now e), t'.av]) := by
  obtain ⟨wh, kn, g, hS⟩ := string_ok h (by omega)
  by_cases hc : code now e = 0
  · obtain ⟨hf, h2, h3⟩ := code_zero hc
    have hsz := app_size hf
    have hf' := hf
    obtain ⟨a1, a2, a3, a4⟩ := hf'
    have hnow := h.small
    obtain ⟨at_, len, text⟩ := e
    dsimp only at a1 a2 a3 a4 h2 h3 hsz
    obtain ⟨a, rfl⟩ : ∃ a : Nat, at_ = (a : Int) := ⟨at_.toNat, by omega⟩
    obtain ⟨l, rfl⟩ : ∃ l : Nat, len = (l : Int) := ⟨len.toNat, by omega⟩
    obtain ⟨i1, ps1, f1, j1, n1, _, c1⟩ := cutx_ok t.ps t.sz wh kn (t.un.map Ed.av) (t.re.map Ed.av) (by omega) (by rw [h.eq]; omega) a (by rw [h.eq]; omega)
    obtain ⟨i2, ps2, f2, j2, n2, k2, c2⟩ := cutx_ok ps1 t.sz wh kn (t.un.map Ed.av) (t.re.map Ed.av) (by omega) (by rw [j1, h.eq]; omega) (a + l) (by rw [j1, h.eq]; omega)
    obtain ⟨q1, q2⟩ := k2 i1 f1.le (by rw [f1.eq]; omega) (fun j' hj' => by have := f1.least j' hj'; omega)
    have hle2 := f2.le
    have hj : join (ps2.take i1 ++ text :: ps2.drop i2) = app now ⟨a, l, text⟩ := by
      refine lb_ext ?_
      rw [lb_appd, join_app]
      simp only [join]
      rw [lb_app, lb_app, q2, f1.parts.1, f2.parts.2, j2, j1, h.eq]
      have z1 : Int.toNat ((a : Int) + (l : Int)) = a + l := by omega
      rw [z1]
      simp only [Int.toNat_natCast, List.append_assoc]
    refine ⟨{ ps := ps2.take i1 ++ text :: ps2.drop i2, sz := IntKind.wrap .i64 (t.sz + IntKind.wrap .i64 ((text.size : Int) - (l : Int))), wh := wh, kn := 0, un := t.un, re := t.re }, ⟨?_, ?_, fun z => absurd rfl z, ?_⟩, rfl, rfl, ?_, ?_⟩
    · unfold nx
      rw [if_pos hc]
      exact hj
    · unfold nx
      rw [if_pos hc, hsz, h.sz]
      dsimp only
      rw [w64 (x := (text.size : Int) - (l : Int)) (by omega) (by omega), w64 (by omega) (by omega)]
      omega
    · exact nx_small h.small
    · simp only [List.length_append, List.length_take, List.length_cons, List.length_drop]
      omega
    refine Ev.shift (fun k => e22 k (t.ps.map prt) t.sz t.wh t.kn (t.un.map Ed.av) (t.re.map Ed.av) (a : Int) (l : Int) text) ?_
    refine Ev.bind (Ev.call 18 hS) ?_
    refine Ev.bind (Ev.call 18 (back34 now ⟨a, l, text⟩ h.small)) ?_
    rw [hc]
    refine Ev.neg (by simp [AV.int]) ?_
    refine Ev.bind (Ev.call 11 c1) ?_
    have z : IntKind.wrap .i64 ((a : Int) + (l : Int)) = ((a + l : Nat) : Int) := by rw [w64 (by omega) (by omega)]; omega
    rw [z]
    refine Ev.bind (Ev.call 9 c2) ?_
    refine Ev.pos (decide_eq_true ⟨rfl, rfl, rfl, rfl, by decide, ?_, ?_, ?_, ?_⟩) ?_
    · show (0 : Int) ≤ (i1 : Int)
      omega
    · show (i1 : Int) ≤ (i2 : Int)
      omega
    · show (i2 : Int) ≤ (((ps2.map prt).length : Nat) : Int)
      rw [List.length_map]
      omega
    · show (ps2.map prt).length + 1 ≤ 16777216
      rw [List.length_map]
      omega
    refine Ev.bind (o := [.i .u32 0]) (Ev.call 2 (Ev.shift (fun k => e41 k false) (Ev.const _))) ?_
    have e1 : ((ps2.map prt).take i1) ++ (AV.g [.s text]) :: ((ps2.map prt).drop i2) = (ps2.take i1 ++ text :: ps2.drop i2).map prt := by
      simp [prt, List.map_take, List.map_drop]
    exact Ev.of fun k => by
      simp only [Tx.av, ← e1, if_true]
      rfl
  · refine ⟨{ t with wh := wh, kn := kn }, by unfold nx; rw [if_neg hc]; exact g, rfl, rfl, by simp, ?_⟩
    refine Ev.shift (fun k => e22 k (t.ps.map prt) t.sz t.wh t.kn (t.un.map Ed.av) (t.re.map Ed.av) e.at_ e.len e.text) ?_
    refine Ev.bind (Ev.call 18 hS) ?_
    refine Ev.bind (Ev.call 18 (back34 now e h.small)) ?_
    refine Ev.pos (by simp [AV.int, hc]) ?_
    rw [if_neg hc]
    exact Ev.const _
def lim {α : Type} (l : List α) : List α := if l.length > 32 then l.drop 1 else l
theorem lim_map {α β : Type} (f : α → β) (l : List α) : (lim l).map f = lim (l.map f) := by
  unfold lim
  rw [List.length_map]
  split
  · rw [List.map_drop]
  · rfl
theorem edit_ok {t : Tx} {now : ByteArray} (h : Good t now) (hb : t.ps.length ≤ 900000) (hu : t.un.length ≤ 900000) (e : Ed) :
    ∃ t', Good t' (nx now e) ∧ t'.un = (if code now e = 0 then lim (t.un ++ [inv now e]) else t.un) ∧ t'.re = (if code now e = 0 then [] else t.re) ∧ t'.ps.length ≤ t.ps.length + 3 ∧ Ev (fun k => call C k 11 [t.av, e.av]) (some [.i .i64 (code now e), t'.av]) := by
  obtain ⟨t1, g, hun, hre, hps, hE⟩ := change_ok h hb e
  by_cases hc : code now e = 0
  · refine ⟨{ t1 with un := lim (t.un ++ [inv now e]), re := [] }, ⟨g.eq, g.sz, g.wh, g.small⟩, by rw [if_pos hc], by rw [if_pos hc], hps, ?_⟩
    rw [if_pos hc] at hE
    refine Ev.shift (fun k => e11 k (t.ps.map prt) t.sz t.wh t.kn (t.un.map Ed.av) (t.re.map Ed.av) e.at_ e.len e.text) ?_
    refine Ev.bind (Ev.call 17 hE) ?_
    rw [hc]
    refine Ev.neg (by simp [AV.int]) ?_
    refine Ev.pos ⟨?_, rfl⟩ ?_
    · show (t1.un.map Ed.av).length + 1 ≤ 16777216
      rw [List.length_map, hun]
      omega
    have e1 : (t1.un.map Ed.av) ++ [(inv now e).av] = (t.un ++ [inv now e]).map Ed.av := by rw [hun]; simp
    have hlen : ((t1.un.map Ed.av) ++ [(inv now e).av]).length = t.un.length + 1 := by rw [e1]; simp
    by_cases h32 : t.un.length + 1 > 32
    · refine Ev.pos (decide_eq_true ?_) ?_
      · show ((((t1.un.map Ed.av) ++ [(inv now e).av]).length : Nat) : Int) > 32
        rw [hlen]
        omega
      refine Ev.pos (decide_eq_true ⟨rfl, rfl, rfl, rfl, rfl, ?_, ?_⟩) ?_
      · show 1 ≤ ((t1.un.map Ed.av) ++ [(inv now e).av]).length
        rw [hlen]
        omega
      · show ((t1.un.map Ed.av) ++ [(inv now e).av]).length ≤ 16777216
        rw [hlen]
        omega
      have e2 : List.drop 1 ((t1.un.map Ed.av) ++ [(inv now e).av]) = (lim (t.un ++ [inv now e])).map Ed.av := by
        rw [lim_map, e1]
        unfold lim
        rw [if_pos (by simp; omega)]
      exact Ev.of fun k => by
        simp only [Tx.av, ← e2]
        rfl
    · refine Ev.neg ?_ ?_
      · intro q
        have q : ((((t1.un.map Ed.av) ++ [(inv now e).av]).length : Nat) : Int) > 32 := of_decide_eq_true q
        rw [hlen] at q
        omega
      have e2 : ((t1.un.map Ed.av) ++ [(inv now e).av]) = (lim (t.un ++ [inv now e])).map Ed.av := by
        rw [lim_map, e1]
        unfold lim
        rw [if_neg (by simp; omega)]
      exact Ev.of fun k => by
        simp only [Tx.av, ← e2]
        rfl
  · refine ⟨t1, g, by rw [if_neg hc]; exact hun, by rw [if_neg hc]; exact hre, hps, ?_⟩
    refine Ev.shift (fun k => e11 k (t.ps.map prt) t.sz t.wh t.kn (t.un.map Ed.av) (t.re.map Ed.av) e.at_ e.len e.text) ?_
    refine Ev.bind (Ev.call 17 hE) ?_
    refine Ev.pos (by simp [AV.int, hc]) ?_
    exact Ev.const _
theorem last_at {us : List Ed} {d : Ed} : AV.g [.i .i64 (AV.int (AV.fld (((us ++ [d]).map Ed.av).getD us.length .u) 0)), .i .i64 (AV.int (AV.fld (((us ++ [d]).map Ed.av).getD us.length .u) 1)), .s (AV.str (AV.fld (((us ++ [d]).map Ed.av).getD us.length .u) 2))] = d.av := by
  have : ((us ++ [d]).map Ed.av).getD us.length .u = d.av := by
    simp [List.getD_eq_getElem?_getD]
  rw [this]
  rfl
theorem undo_nil {t : Tx} (hu : t.un = []) : Ev (fun k => call C k 13 [t.av]) (some [.i .i64 4, t.av]) := by
  refine Ev.shift (fun k => e13 k (t.ps.map prt) t.sz t.wh t.kn (t.un.map Ed.av) (t.re.map Ed.av)) ?_
  refine Ev.pos (decide_eq_true ?_) ?_
  · rw [hu, w64 (by simp) (by simp)]
    simp
  exact Ev.const _
theorem redo_nil {t : Tx} (hu : t.re = []) : Ev (fun k => call C k 17 [t.av]) (some [.i .i64 4, t.av]) := by
  refine Ev.shift (fun k => e17 k (t.ps.map prt) t.sz t.wh t.kn (t.un.map Ed.av) (t.re.map Ed.av)) ?_
  refine Ev.pos (decide_eq_true ?_) ?_
  · rw [hu, w64 (by simp) (by simp)]
    simp
  exact Ev.const _
theorem undo_ok {t : Tx} {now : ByteArray} {us : List Ed} {d : Ed} (h : Good t now) (hb : t.ps.length ≤ 900000) (hu : t.un = us ++ [d]) (hl : us.length ≤ 900000) (hr : t.re.length ≤ 900000) (hc : code now d = 0) :
    ∃ t', Good t' (app now d) ∧ t'.un = us ∧ t'.re = t.re ++ [inv now d] ∧ t'.ps.length ≤ t.ps.length + 3 ∧ Ev (fun k => call C k 13 [t.av]) (some [.i .i64 0, t'.av]) := by
  obtain ⟨t1, g, hun, hre, hps, hE⟩ := change_ok h hb d
  rw [if_pos hc] at hE
  unfold nx at g
  rw [if_pos hc] at g
  refine ⟨{ t1 with un := us, re := t.re ++ [inv now d] }, ⟨g.eq, g.sz, g.wh, g.small⟩, rfl, rfl, hps, ?_⟩
  refine Ev.shift (fun k => e13 k (t.ps.map prt) t.sz t.wh t.kn (t.un.map Ed.av) (t.re.map Ed.av)) ?_
  have z : IntKind.wrap .i64 ((((t.un.map Ed.av).length : Nat) : Int) - (1 : Int)) = (us.length : Int) := by
    rw [List.length_map, hu, w64 (by simp <;> omega) (by simp <;> omega)]
    simp
  rw [z]
  have z2 : (t.un.map Ed.av).length = us.length + 1 := by rw [hu]; simp
  refine Ev.neg (by simp) ?_
  refine Ev.pos ⟨by omega, by rw [z2]; omega⟩ ?_
  have z3 : Int.toNat (us.length : Int) = us.length := rfl
  rw [z3, hu, last_at, ← hu]
  refine Ev.bind (Ev.call 7 hE) ?_
  refine Ev.pos ⟨by omega, ?_⟩ ?_
  · show (us.length : Int) ≤ (((t1.un.map Ed.av).length : Nat) : Int)
    rw [hun, z2]
    omega
  refine Ev.pos ⟨?_, rfl⟩ ?_
  · show (t1.re.map Ed.av).length + 1 ≤ 16777216
    rw [List.length_map, hre]
    omega
  have e1 : (((t1.un.map Ed.av).drop 0).take (us.length - 0)) = us.map Ed.av := by
    rw [hun, hu]
    simp
  have e2 : (t1.re.map Ed.av) ++ [(inv now d).av] = (t.re ++ [inv now d]).map Ed.av := by rw [hre]; simp
  exact Ev.of fun k => by
    simp only [Tx.av, ← e1, ← e2, hc]
    rfl
theorem redo_ok {t : Tx} {now : ByteArray} {us : List Ed} {d : Ed} (h : Good t now) (hb : t.ps.length ≤ 900000) (hu : t.re = us ++ [d]) (hl : us.length ≤ 900000) (hr : t.un.length ≤ 900000) (hc : code now d = 0) :
    ∃ t', Good t' (app now d) ∧ t'.re = us ∧ t'.un = t.un ++ [inv now d] ∧ t'.ps.length ≤ t.ps.length + 3 ∧ Ev (fun k => call C k 17 [t.av]) (some [.i .i64 0, t'.av]) := by
  obtain ⟨t1, g, hun, hre, hps, hE⟩ := change_ok h hb d
  rw [if_pos hc] at hE
  unfold nx at g
  rw [if_pos hc] at g
  refine ⟨{ t1 with re := us, un := t.un ++ [inv now d] }, ⟨g.eq, g.sz, g.wh, g.small⟩, rfl, rfl, hps, ?_⟩
  refine Ev.shift (fun k => e17 k (t.ps.map prt) t.sz t.wh t.kn (t.un.map Ed.av) (t.re.map Ed.av)) ?_
  have z : IntKind.wrap .i64 ((((t.re.map Ed.av).length : Nat) : Int) - (1 : Int)) = (us.length : Int) := by
    rw [List.length_map, hu, w64 (by simp <;> omega) (by simp <;> omega)]
    simp
  rw [z]
  have z2 : (t.re.map Ed.av).length = us.length + 1 := by rw [hu]; simp
  refine Ev.neg (by simp) ?_
  refine Ev.pos ⟨by omega, by rw [z2]; omega⟩ ?_
  have z3 : Int.toNat (us.length : Int) = us.length := rfl
  rw [z3, hu, last_at, ← hu]
  refine Ev.bind (Ev.call 7 hE) ?_
  refine Ev.pos ⟨by omega, ?_⟩ ?_
  · show (us.length : Int) ≤ (((t1.re.map Ed.av).length : Nat) : Int)
    rw [hre, z2]
    omega
  refine Ev.pos ⟨?_, rfl⟩ ?_
  · show (t1.un.map Ed.av).length + 1 ≤ 16777216
    rw [List.length_map, hun]
    omega
  have e1 : (((t1.re.map Ed.av).drop 0).take (us.length - 0)) = us.map Ed.av := by
    rw [hre, hu]
    simp
  have e2 : (t1.un.map Ed.av) ++ [(inv now d).av] = (t.un ++ [inv now d]).map Ed.av := by rw [hun]; simp
  exact Ev.of fun k => by
    simp only [Tx.av, ← e1, ← e2, hc]
    rfl
end Go.Proofs.Ytfnepeilccainaa.Den

/- Proved here: the reference's text, and what is done to both, of what the evaluator says. No condition. -/
namespace Go.Proofs.Ytfnepeilccainaa.Den
open Go Go.Proofs
set_option linter.unusedVariables false
set_option linter.unusedSimpArgs false
def bl (l : List UInt8) : List AV := l.map fun (c : UInt8) => AV.i .u8 (c.toNat : Int)
theorem bytesOf_bl (l : List UInt8) : bytesOf (bl l) = ⟨l.toArray⟩ := bytesOf_eq l
theorem byte_at {now : ByteArray} {j : Nat} (h : j < now.size) : (lb now).drop j = now.data.getD j 0 :: (lb now).drop (j + 1) := by
  have hl : j < (lb now).length := by rw [lb_len]; exact h
  rw [List.drop_eq_getElem_cons hl]
  congr 1
  simp only [lb, Array.getElem_toList, Array.getD_eq_getD_getElem?]
  rw [Array.getElem?_eq_getElem (by simpa [lb] using hl)]
  rfl
theorem l1_ok (now : ByteArray) : ∀ (m j : Nat) (acc : List UInt8), j + m = now.size → acc.length + m ≤ 100000 → now.size ≤ 100000 → Ev (fun k => l1 k now (bl acc) (j : Int)) (some [.s ⟨(acc ++ (lb now).drop j).toArray⟩, .i .i64 0]) := by
  intro m
  induction m with
  | zero =>
    intro j acc hj hl hn
    refine Ev.shift (fun k => l1_eq k ..) ?_
    refine Ev.neg (by simp; omega) ?_
    rw [bytesOf_bl, List.drop_eq_nil_of_le (by rw [lb_len]; omega), List.append_nil]
    exact Ev.const _
  | succ m ih =>
    intro j acc hj hl hn
    refine Ev.shift (fun k => l1_eq k ..) ?_
    refine Ev.pos (by simp; omega) ?_
    refine Ev.pos (by omega) ?_
    refine Ev.pos ⟨?_, rfl⟩ ?_
    · show (acc.map _).length + 1 ≤ 16777216
      rw [List.length_map]
      omega
    have e2 : IntKind.wrap .i64 ((j : Int) + (1 : Int)) = ((j + 1 : Nat) : Int) := by rw [w64 (by omega) (by omega)]; omega
    have e3 : (bl acc ++ [(AV.i .u8 ((((now).data.getD (Int.toNat (j : Int)) 0).toNat : Nat) : Int))]) = bl (acc ++ [now.data.getD j 0]) := by simp [bl]
    rw [e2, e3, byte_at (now := now) (j := j) (by omega)]
    have := ih (j + 1) (acc ++ [now.data.getD j 0]) (by omega) (by simp; omega) hn
    rw [List.append_assoc] at this
    exact this.add 0
theorem l0_ok (now text : ByteArray) (a l : Nat) (ha : a + l ≤ now.size) (hn : now.size ≤ 5000) (ht : text.size ≤ 5000) : ∀ (m j : Nat) (acc : List UInt8), j + m = a → acc.length = j → Ev (fun k => l0 k (a : Int) (l : Int) text now (bl acc) (j : Int)) (some [.s ⟨(acc ++ ((lb now).drop j).take (a - j) ++ lb text ++ (lb now).drop (a + l)).toArray⟩, .i .i64 0]) := by
  intro m
  induction m with
  | zero =>
    intro j acc hj hl
    have hja : j = a := by omega
    subst hja
    refine Ev.shift (fun k => l0_eq k ..) ?_
    refine Ev.neg (by simp) ?_
    refine Ev.pos ⟨?_, rfl⟩ ?_
    · show (acc.map _).length + (bs text).length ≤ 16777216
      rw [List.length_map, bs_length]
      omega
    have e2 : IntKind.wrap .i64 ((j : Int) + (l : Int)) = ((j + l : Nat) : Int) := by rw [w64 (by omega) (by omega)]; omega
    have e3 : (bl acc ++ ((text).data.toList.map fun (c : UInt8) => AV.i .u8 (c.toNat : Int))) = bl (acc ++ lb text) := by simp [bl, lb]
    rw [e2, e3, Nat.sub_self, List.take_zero, List.append_nil]
    exact (l1_ok now (now.size - (j + l)) (j + l) (acc ++ lb text) (by omega) (by rw [List.length_append, lb_len]; omega) (by omega)).add 0
  | succ m ih =>
    intro j acc hj hl
    refine Ev.shift (fun k => l0_eq k ..) ?_
    refine Ev.pos (by simp; omega) ?_
    refine Ev.pos (by omega) ?_
    refine Ev.pos ⟨?_, rfl⟩ ?_
    · show (acc.map _).length + 1 ≤ 16777216
      rw [List.length_map]
      omega
    have e2 : IntKind.wrap .i64 ((j : Int) + (1 : Int)) = ((j + 1 : Nat) : Int) := by rw [w64 (by omega) (by omega)]; omega
    have e3 : (bl acc ++ [(AV.i .u8 ((((now).data.getD (Int.toNat (j : Int)) 0).toNat : Nat) : Int))]) = bl (acc ++ [now.data.getD j 0]) := by simp [bl]
    rw [e2, e3, byte_at (now := now) (j := j) (by omega)]
    have z : a - j = (a - (j + 1)) + 1 := by omega
    rw [z, List.take_succ_cons]
    have := ih (j + 1) (acc ++ [now.data.getD j 0]) (by omega) (by simp; omega)
    rw [List.append_assoc acc] at this
    exact this.add 1
theorem apply42 (now : ByteArray) (e : Ed) (hn : now.size ≤ 4000) : Ev (fun k => call C k 42 [.s now, e.av]) (some [.s (resA now e), .i .i64 (code now e)]) := by
  refine Ev.shift (fun k => e42 k now e.at_ e.len e.text) ?_
  refine Ev.bind (Ev.call 17 (fits20 now e (by omega))) ?_
  by_cases h : fits now e
  · refine Ev.neg (by simp [h, AV.bool]) ?_
    have h' := h
    obtain ⟨a1, a2, a3, a4⟩ := h'
    by_cases h2 : e.text.size ≤ 4000
    · refine Ev.pos (by simp; omega) ?_
      rw [w64 (x := (now.size : Int) - e.len) (by omega) (by omega), w64 (by omega) (by omega)]
      by_cases h3 : (now.size : Int) - e.len + (e.text.size : Int) ≤ 4000
      · refine Ev.neg (by simp; omega) ?_
        have hc := zero_code h h2 h3
        unfold resA
        rw [if_pos hc, hc]
        obtain ⟨at_, len, text⟩ := e
        dsimp only at a1 a2 a3 a4 h2 h3
        obtain ⟨a, rfl⟩ : ∃ a : Nat, at_ = (a : Int) := ⟨at_.toNat, by omega⟩
        obtain ⟨l, rfl⟩ : ∃ l : Nat, len = (l : Int) := ⟨len.toNat, by omega⟩
        have := l0_ok now text a l (by omega) (by omega) (by omega) a 0 [] (by omega) rfl
        rw [List.nil_append, List.drop_zero, Nat.sub_zero] at this
        have e1 : app now ⟨a, l, text⟩ = ⟨((lb now).take a ++ lb text ++ (lb now).drop (a + l)).toArray⟩ := by
          unfold app
          have z1 : Int.toNat ((a : Int) + (l : Int)) = a + l := by omega
          simp only [z1, Int.toNat_natCast]
        rw [e1]
        exact this.add 0
      · refine Ev.pos (by simp; omega) ?_
        have hc : code now e = 3 := by unfold code; rw [if_neg (by simpa using h), if_neg (by omega), if_pos (by omega)]
        unfold resA
        rw [hc]
        exact Ev.const _
    · refine Ev.neg (by simp; omega) ?_
      have hc : code now e = 3 := by unfold code; rw [if_neg (by simpa using h), if_pos (by omega)]
      unfold resA
      rw [hc]
      exact Ev.const _
  · refine Ev.pos (by simp [h, AV.bool]) ?_
    have hc : code now e = 2 := by unfold code; rw [if_pos h]
    unfold resA
    rw [hc]
    exact Ev.const _
def sl (B : List ByteArray) : List AV := B.map AV.s
abbrev rx (B : List ByteArray) (N : ByteArray) (A : List ByteArray) : AV := .g [.l 9 (sl B), .s N, .l 9 (sl A)]
theorem sl_len (B : List ByteArray) : (sl B).length = B.length := by simp [sl]
theorem sl_app (B : List ByteArray) (N : ByteArray) : sl B ++ [.s N] = sl (B ++ [N]) := by simp [sl]
theorem refEdit_ok (B : List ByteArray) (N : ByteArray) (A : List ByteArray) (e : Ed) (hn : N.size ≤ 4000) (hB : B.length ≤ 900000) :
    Ev (fun k => call C k 29 [rx B N A, e.av]) (some [.i .i64 (code N e), rx (if code N e = 0 then lim (B ++ [N]) else B) (nx N e) (if code N e = 0 then [] else A)]) := by
  refine Ev.shift (fun k => e29 k (sl B) N (sl A) e.at_ e.len e.text) ?_
  refine Ev.bind (Ev.call 19 (apply42 N e hn)) ?_
  by_cases hc : code N e = 0
  · refine Ev.neg (by simp [AV.int, hc]) ?_
    refine Ev.pos ⟨?_, rfl⟩ ?_
    · show (sl B).length + 1 ≤ 16777216
      rw [sl_len]
      omega
    unfold nx resA
    simp only [if_pos hc, hc]
    rw [sl_app]
    unfold lim
    by_cases h32 : (B ++ [N]).length > 32
    · refine Ev.pos (decide_eq_true (by rw [sl_len]; omega)) ?_
      refine Ev.pos ⟨by omega, by rw [sl_len]; omega⟩ ?_
      rw [if_pos h32]
      have e1 : ((sl (B ++ [N])).drop (Int.toNat (1 : Int))).take ((List.length (sl (B ++ [N]))) - (Int.toNat (1 : Int))) = sl ((B ++ [N]).drop 1) := by
        have z : Int.toNat (1 : Int) = 1 := rfl
        rw [z, List.take_of_length_le (by rw [List.length_drop]; omega)]
        unfold sl
        rw [List.map_drop]
      rw [e1]
      exact Ev.const _
    · refine Ev.neg ?_ ?_
      · intro q
        have q := of_decide_eq_true q
        rw [sl_len] at q
        omega
      rw [if_neg h32]
      exact Ev.const _
  · refine Ev.pos (by simp [AV.int, hc]) ?_
    unfold nx
    rw [if_neg hc, if_neg hc, if_neg hc]
    exact Ev.const _
theorem sl_take {B : List ByteArray} {b : ByteArray} : ((sl (B ++ [b])).drop 0).take (B.length - 0) = sl B := by
  simp [sl]
theorem sl_last {B : List ByteArray} {b : ByteArray} : AV.str ((sl (B ++ [b])).getD B.length .u) = b := by
  simp [sl, List.getD_eq_getElem?_getD, AV.str]
theorem len_last {B : List ByteArray} {b : ByteArray} (h : B.length ≤ 900000) : IntKind.wrap .i64 (((List.length (sl (B ++ [b])) : Nat) : Int) - (1 : Int)) = (B.length : Int) := by
  rw [sl_len, w64 (by simp <;> omega) (by simp <;> omega)]
  simp
theorem refUndo_nil (N : ByteArray) (A : List ByteArray) : Ev (fun k => call C k 30 [rx [] N A]) (some [.i .i64 4, rx [] N A]) := by
  refine Ev.shift (fun k => e30 k (sl []) N (sl A)) ?_
  exact Ev.pos rfl (Ev.const _)
theorem refUndo_ok (B : List ByteArray) (b N : ByteArray) (A : List ByteArray) (hB : B.length ≤ 900000) (hA : A.length ≤ 900000) : Ev (fun k => call C k 30 [rx (B ++ [b]) N A]) (some [.i .i64 0, rx B b (A ++ [N])]) := by
  refine Ev.shift (fun k => e30 k (sl (B ++ [b])) N (sl A)) ?_
  refine Ev.neg (by rw [sl_len]; simp; omega) ?_
  refine Ev.pos ⟨by show (sl A).length + 1 ≤ 16777216; rw [sl_len]; omega, rfl⟩ ?_
  rw [len_last hB]
  refine Ev.pos ⟨by omega, by rw [sl_len]; simp; omega⟩ ?_
  refine Ev.pos ⟨by omega, by rw [sl_len]; simp; omega⟩ ?_
  have z3 : Int.toNat (B.length : Int) = B.length := rfl
  rw [z3, sl_take, sl_last, sl_app]
  exact Ev.const _
theorem refRedo_nil (B : List ByteArray) (N : ByteArray) : Ev (fun k => call C k 31 [rx B N []]) (some [.i .i64 4, rx B N []]) := by
  refine Ev.shift (fun k => e31 k (sl B) N (sl [])) ?_
  exact Ev.pos rfl (Ev.const _)
theorem refRedo_ok (B : List ByteArray) (b N : ByteArray) (A : List ByteArray) (hB : B.length ≤ 900000) (hA : A.length ≤ 900000) : Ev (fun k => call C k 31 [rx B N (A ++ [b])]) (some [.i .i64 0, rx (B ++ [N]) b A]) := by
  refine Ev.shift (fun k => e31 k (sl B) N (sl (A ++ [b]))) ?_
  refine Ev.neg (by rw [sl_len]; simp; omega) ?_
  refine Ev.pos ⟨by show (sl B).length + 1 ≤ 16777216; rw [sl_len]; omega, rfl⟩ ?_
  rw [len_last hA]
  refine Ev.pos ⟨by omega, by rw [sl_len]; simp; omega⟩ ?_
  refine Ev.pos ⟨by omega, by rw [sl_len]; simp; omega⟩ ?_
  have z3 : Int.toNat (A.length : Int) = A.length := rfl
  rw [z3, sl_take, sl_last, sl_app]
  exact Ev.const _
structure Ac where
  kind : Int
  e : Ed
def Ac.av (a : Ac) : AV := .g [.i .i64 a.kind, a.e.av]
theorem do_edit {t t' : Tx} {B : List ByteArray} {N : ByteArray} {A : List ByteArray} {B' : List ByteArray} {N' : ByteArray} {A' : List ByteArray} {a : Ac} {c c' : Int} (hk : a.kind = 0)
    (h1 : Ev (fun k => call C k 11 [t.av, a.e.av]) (some [.i .i64 c, t'.av])) (h2 : Ev (fun k => call C k 29 [rx B N A, a.e.av]) (some [.i .i64 c', rx B' N' A'])) :
    Ev (fun k => call C k 15 [t.av, rx B N A, a.av]) (some [.b (c == c'), t'.av, rx B' N' A']) := by
  refine Ev.shift (fun k => e15 k (t.ps.map prt) t.sz t.wh t.kn (t.un.map Ed.av) (t.re.map Ed.av) (sl B) N (sl A) a.kind a.e.at_ a.e.len a.e.text) ?_
  refine Ev.pos (by simp [hk]) ?_
  refine Ev.bind (Ev.call 9 h1) ?_
  refine Ev.bind (Ev.call 9 h2) ?_
  exact Ev.const _
theorem do_undo {t t' : Tx} {B : List ByteArray} {N : ByteArray} {A : List ByteArray} {B' : List ByteArray} {N' : ByteArray} {A' : List ByteArray} {a : Ac} {c c' : Int} (hk : a.kind = 1)
    (h1 : Ev (fun k => call C k 13 [t.av]) (some [.i .i64 c, t'.av])) (h2 : Ev (fun k => call C k 30 [rx B N A]) (some [.i .i64 c', rx B' N' A'])) :
    Ev (fun k => call C k 15 [t.av, rx B N A, a.av]) (some [.b (c == c'), t'.av, rx B' N' A']) := by
  refine Ev.shift (fun k => e15 k (t.ps.map prt) t.sz t.wh t.kn (t.un.map Ed.av) (t.re.map Ed.av) (sl B) N (sl A) a.kind a.e.at_ a.e.len a.e.text) ?_
  refine Ev.neg (by simp [hk]) ?_
  refine Ev.pos (by simp [hk]) ?_
  refine Ev.bind (Ev.call 6 h1) ?_
  refine Ev.bind (Ev.call 6 h2) ?_
  exact Ev.const _
theorem do_redo {t t' : Tx} {B : List ByteArray} {N : ByteArray} {A : List ByteArray} {B' : List ByteArray} {N' : ByteArray} {A' : List ByteArray} {a : Ac} {c c' : Int} (hk : a.kind = 2)
    (h1 : Ev (fun k => call C k 17 [t.av]) (some [.i .i64 c, t'.av])) (h2 : Ev (fun k => call C k 31 [rx B N A]) (some [.i .i64 c', rx B' N' A'])) :
    Ev (fun k => call C k 15 [t.av, rx B N A, a.av]) (some [.b (c == c'), t'.av, rx B' N' A']) := by
  refine Ev.shift (fun k => e15 k (t.ps.map prt) t.sz t.wh t.kn (t.un.map Ed.av) (t.re.map Ed.av) (sl B) N (sl A) a.kind a.e.at_ a.e.len a.e.text) ?_
  refine Ev.neg (by simp [hk]) ?_
  refine Ev.neg (by simp [hk]) ?_
  refine Ev.pos (by simp [hk]) ?_
  refine Ev.bind (Ev.call 3 h1) ?_
  refine Ev.bind (Ev.call 3 h2) ?_
  exact Ev.const _
theorem do_none {t : Tx} {B : List ByteArray} {N : ByteArray} {A : List ByteArray} {a : Ac} (h0 : a.kind ≠ 0) (h1 : a.kind ≠ 1) (h2 : a.kind ≠ 2) :
    Ev (fun k => call C k 15 [t.av, rx B N A, a.av]) (some [.b true, t.av, rx B N A]) := by
  refine Ev.shift (fun k => e15 k (t.ps.map prt) t.sz t.wh t.kn (t.un.map Ed.av) (t.re.map Ed.av) (sl B) N (sl A) a.kind a.e.at_ a.e.len a.e.text) ?_
  refine Ev.neg (by simp [h0]) ?_
  refine Ev.neg (by simp [h1]) ?_
  refine Ev.neg (by simp [h2]) ?_
  exact Ev.const _
end Go.Proofs.Ytfnepeilccainaa.Den

/- Proved here: what is done to a text and to the reference's, one behind the other. No condition. -/
namespace Go.Proofs.Ytfnepeilccainaa.Den
open Go Go.Proofs
set_option linter.unusedVariables false
set_option linter.unusedSimpArgs false
/-- The ways back lead to what there was, the last one first. -/
def W : ByteArray → List Ed → List ByteArray → Prop
  | _, [], [] => True
  | now, d :: us, b :: bs => code now d = 0 ∧ app now d = b ∧ W b us bs
  | _, _, _ => False
theorem W_len : ∀ {now : ByteArray} {us : List Ed} {bs : List ByteArray}, W now us bs → us.length = bs.length
  | _, [], [], _ => rfl
  | _, d :: us, b :: bs, h => by
    have := W_len h.2.2
    simp only [List.length_cons, this]
  | _, [], b :: bs, h => h.elim
  | _, d :: us, [], h => h.elim
theorem W_take : ∀ (n : Nat) {now : ByteArray} {us : List Ed} {bs : List ByteArray}, W now us bs → W now (us.take n) (bs.take n)
  | 0, _, us, bs, h => by simp only [List.take_zero]; trivial
  | n + 1, _, [], [], h => h
  | n + 1, _, d :: us, b :: bs, h => ⟨h.1, h.2.1, W_take n h.2.2⟩
  | n + 1, _, [], b :: bs, h => h.elim
  | n + 1, _, d :: us, [], h => h.elim
structure Rel (t : Tx) (N : ByteArray) (B A : List ByteArray) : Prop where
  good : Good t N
  un : W N t.un.reverse B.reverse
  re : W N t.re.reverse A.reverse
theorem Rel.unl {t : Tx} {N : ByteArray} {B A : List ByteArray} (h : Rel t N B A) : t.un.length = B.length := by
  have := W_len h.un
  simpa using this
theorem Rel.rel {t : Tx} {N : ByteArray} {B A : List ByteArray} (h : Rel t N B A) : t.re.length = A.length := by
  have := W_len h.re
  simpa using this
theorem lim_rev {α : Type} (l : List α) : ∃ n, (lim l).reverse = l.reverse.take n ∧ ∀ {β : Type} (m : List β), m.length = l.length → (lim m).reverse = m.reverse.take n := by
  by_cases h : l.length > 32
  · refine ⟨l.length - 1, ?_, fun m hm => ?_⟩
    · unfold lim
      rw [if_pos h, List.reverse_drop]
    · unfold lim
      rw [if_pos (by omega), List.reverse_drop, hm]
  · refine ⟨l.length, ?_, fun m hm => ?_⟩
    · unfold lim
      rw [if_neg h, List.take_of_length_le (by simp)]
    · unfold lim
      rw [if_neg (by omega), List.take_of_length_le (by simp [hm])]
theorem lim_len {α : Type} (l : List α) : (lim l).length ≤ l.length := by
  unfold lim
  split
  · rw [List.length_drop]; omega
  · exact Nat.le_refl _
theorem Rel.edit {t : Tx} {N : ByteArray} {B A : List ByteArray} (h : Rel t N B A) (hb : t.ps.length ≤ 900000) (hB : B.length ≤ 900000) (e : Ed) :
    ∃ t', Rel t' (nx N e) (if code N e = 0 then lim (B ++ [N]) else B) (if code N e = 0 then [] else A) ∧ t'.ps.length ≤ t.ps.length + 3 ∧ Ev (fun k => call C k 11 [t.av, e.av]) (some [.i .i64 (code N e), t'.av]) := by
  obtain ⟨t', g, hun, hre, hps, hE⟩ := edit_ok h.good hb (by rw [h.unl]; exact hB) e
  refine ⟨t', ⟨g, ?_, ?_⟩, hps, hE⟩
  · rw [hun]
    by_cases hc : code N e = 0
    · rw [if_pos hc, if_pos hc]
      obtain ⟨n, q1, q2⟩ := lim_rev (t.un ++ [inv N e])
      rw [q1, q2 (B ++ [N]) (by simp [h.unl])]
      refine W_take n ?_
      rw [List.reverse_append, List.reverse_append]
      unfold nx
      rw [if_pos hc]
      exact ⟨inv_code h.good.small hc, (app_inv (code_zero hc).1).2, h.un⟩
    · unfold nx
      rw [if_neg hc, if_neg hc, if_neg hc]
      exact h.un
  · rw [hre]
    by_cases hc : code N e = 0
    · rw [if_pos hc, if_pos hc]
      trivial
    · unfold nx
      rw [if_neg hc, if_neg hc, if_neg hc]
      exact h.re
theorem W_cons {now : ByteArray} {us : List Ed} {B : List ByteArray} {b : ByteArray} (h : W now us.reverse (B ++ [b]).reverse) : ∃ us' d, us = us' ++ [d] ∧ code now d = 0 ∧ app now d = b ∧ W b us'.reverse B.reverse := by
  rw [List.reverse_append] at h
  rcases List.eq_nil_or_concat us with rfl | ⟨us', d, rfl⟩
  · exact h.elim
  · simp only [List.concat_eq_append, List.reverse_append] at h
    exact ⟨us', d, by simp, h⟩
theorem W_nil {now : ByteArray} {us : List Ed} (h : W now us.reverse ([] : List ByteArray).reverse) : us = [] := by
  have := W_len h
  simpa using this
theorem Rel.undo {t : Tx} {N b : ByteArray} {B A : List ByteArray} (h : Rel t N (B ++ [b]) A) (hb : t.ps.length ≤ 900000) (hB : B.length ≤ 900000) (hA : A.length ≤ 900000) :
    ∃ t', Rel t' b B (A ++ [N]) ∧ t'.ps.length ≤ t.ps.length + 3 ∧ Ev (fun k => call C k 13 [t.av]) (some [.i .i64 0, t'.av]) := by
  obtain ⟨us, d, h1, h2, h3, h4⟩ := W_cons h.un
  have hl : us.length = B.length := by simpa using W_len h4
  obtain ⟨t', g, hun, hre, hps, hE⟩ := undo_ok h.good hb h1 (by omega) (by rw [h.rel]; exact hA) h2
  rw [h3] at g
  refine ⟨t', ⟨g, by rw [hun]; exact h4, ?_⟩, hps, hE⟩
  rw [hre, List.reverse_append, List.reverse_append]
  have k1 := inv_code h.good.small h2
  have k2 := (app_inv (code_zero h2).1).2
  rw [h3] at k1 k2
  exact ⟨k1, k2, h.re⟩
theorem Rel.redo {t : Tx} {N b : ByteArray} {B A : List ByteArray} (h : Rel t N B (A ++ [b])) (hb : t.ps.length ≤ 900000) (hB : B.length ≤ 900000) (hA : A.length ≤ 900000) :
    ∃ t', Rel t' b (B ++ [N]) A ∧ t'.ps.length ≤ t.ps.length + 3 ∧ Ev (fun k => call C k 17 [t.av]) (some [.i .i64 0, t'.av]) := by
  obtain ⟨us, d, h1, h2, h3, h4⟩ := W_cons h.re
  have hl : us.length = A.length := by simpa using W_len h4
  obtain ⟨t', g, hun, hre, hps, hE⟩ := redo_ok h.good hb h1 (by omega) (by rw [h.unl]; exact hB) h2
  rw [h3] at g
  refine ⟨t', ⟨g, ?_, by rw [hun]; exact h4⟩, hps, hE⟩
  rw [hre, List.reverse_append, List.reverse_append]
  have k1 := inv_code h.good.small h2
  have k2 := (app_inv (code_zero h2).1).2
  rw [h3] at k1 k2
  exact ⟨k1, k2, h.un⟩
theorem last_of {α : Type} (l : List α) : l = [] ∨ ∃ l' a, l = l' ++ [a] := by
  rcases List.eq_nil_or_concat l with h | ⟨l', a, h⟩
  · exact .inl h
  · exact .inr ⟨l', a, by simpa using h⟩
/-- An act, done to both. -/
theorem do_ok {t : Tx} {N : ByteArray} {B A : List ByteArray} (h : Rel t N B A) (hb : t.ps.length ≤ 900000) (hB : B.length ≤ 800000) (hA : A.length ≤ 800000) (a : Ac) :
    ∃ t' N' B' A', Rel t' N' B' A' ∧ t'.ps.length ≤ t.ps.length + 3 ∧ B'.length ≤ B.length + 1 ∧ A'.length ≤ A.length + 1 ∧ Ev (fun k => call C k 15 [t.av, rx B N A, a.av]) (some [.b true, t'.av, rx B' N' A']) := by
  by_cases k0 : a.kind = 0
  · obtain ⟨t', r, hp, hE⟩ := h.edit hb (by omega) a.e
    refine ⟨t', _, _, _, r, hp, ?_, ?_, ?_⟩
    · split
      · exact Nat.le_trans (lim_len _) (by simp)
      · omega
    · split
      · simp
      · omega
    · have := do_edit k0 hE (refEdit_ok B N A a.e h.good.small (by omega))
      simpa using this
  by_cases k1 : a.kind = 1
  · rcases last_of B with rfl | ⟨B, b, rfl⟩
    · refine ⟨t, N, [], A, h, by omega, by omega, by omega, ?_⟩
      have := do_undo k1 (undo_nil (W_nil h.un)) (refUndo_nil N A)
      simpa using this
    · simp only [List.length_append, List.length_cons, List.length_nil] at hB
      obtain ⟨t', r, hp, hE⟩ := h.undo hb (by omega) (by omega)
      refine ⟨t', b, B, A ++ [N], r, hp, by simp <;> omega, by simp, ?_⟩
      have := do_undo k1 hE (refUndo_ok B b N A (by omega) (by omega))
      simpa using this
  by_cases k2 : a.kind = 2
  · rcases last_of A with rfl | ⟨A, b, rfl⟩
    · refine ⟨t, N, B, [], h, by omega, by omega, by omega, ?_⟩
      have := do_redo k2 (redo_nil (W_nil h.re)) (refRedo_nil B N)
      simpa using this
    · simp only [List.length_append, List.length_cons, List.length_nil] at hA
      obtain ⟨t', r, hp, hE⟩ := h.redo hb (by omega) (by omega)
      refine ⟨t', b, B ++ [N], A, r, hp, by simp, by simp <;> omega, ?_⟩
      have := do_redo k2 hE (refRedo_ok B b N A (by omega) (by omega))
      simpa using this
  · exact ⟨t, N, B, A, h, by omega, by omega, by omega, do_none k0 k1 k2⟩
theorem Rel.str {t : Tx} {N : ByteArray} {B A : List ByteArray} (h : Rel t N B A) {wh : ByteArray} {kn : Int} (g : Good { t with wh := wh, kn := kn } N) : Rel { t with wh := wh, kn := kn } N B A := ⟨g, h.un, h.re⟩
theorem steps16 (t : Tx) : Ev (fun k => call C k 16 [.at 64 t.av]) (some [.i .i64 (t.un.length : Int), .i .i64 (t.re.length : Int)]) := by
  refine Ev.shift (fun k => e16 k (t.ps.map prt) t.sz t.wh t.kn (t.un.map Ed.av) (t.re.map Ed.av)) ?_
  rw [List.length_map, List.length_map]
  exact Ev.const _
theorem len18 (t : Tx) : Ev (fun k => call C k 18 [.at 64 t.av]) (some [.i .i64 t.sz]) :=
  Ev.shift (fun k => e18 k (t.ps.map prt) t.sz t.wh t.kn (t.un.map Ed.av) (t.re.map Ed.av)) (Ev.const _)
theorem ac_at {xs : List Ac} {j : Nat} (h : j < xs.length) : AV.g [.i .i64 (AV.int (AV.fld ((xs.map Ac.av).getD j .u) 0)), .g [.i .i64 (AV.int (AV.fld (AV.fld ((xs.map Ac.av).getD j .u) 1) 0)), .i .i64 (AV.int (AV.fld (AV.fld ((xs.map Ac.av).getD j .u) 1) 1)), .s (AV.str (AV.fld (AV.fld ((xs.map Ac.av).getD j .u) 1) 2))]] = xs[j].av := by
  have : ((xs.map Ac.av).getD j .u) = xs[j].av := by
    simp [List.getD_eq_getElem?_getD, h]
  rw [this]
  rfl
theorem l12_ok (xs : List Ac) (hl : xs.length ≤ 100) : ∀ (m j : Nat) (t : Tx) (N : ByteArray) (B A : List ByteArray), j + m = xs.length → Rel t N B A → t.ps.length ≤ 1 + 3 * j → B.length ≤ j → A.length ≤ j →
    Ev (fun k => l12 k (t.ps.map prt) t.sz t.wh t.kn (t.un.map Ed.av) (t.re.map Ed.av) (sl B) N (sl A) (xs.map Ac.av) (xs.length : Int) (j : Int)) (some [.b true]) := by
  intro m
  induction m with
  | zero =>
    intro j t N B A hj r hp hB hA
    refine Ev.shift (fun k => l12_eq k ..) ?_
    refine Ev.neg (by simp; omega) ?_
    exact Ev.const _
  | succ m ih =>
    intro j t N B A hj r hp hB hA
    have hlt : j < xs.length := by omega
    obtain ⟨t1, N1, B1, A1, r1, p1, b1, a1, hE⟩ := do_ok r (by omega) (by omega) (by omega) xs[j]
    refine Ev.shift (fun k => l12_eq k ..) ?_
    refine Ev.pos (by simp; omega) ?_
    refine Ev.pos (by simp; omega) ?_
    have z3 : Int.toNat (j : Int) = j := rfl
    rw [z3, ac_at hlt]
    refine Ev.bind (Ev.call 13 hE) ?_
    refine Ev.neg (by simp [AV.bool]) ?_
    refine Ev.bind (Ev.call 9 (steps16 t1)) ?_
    obtain ⟨wh, kn, g, hS⟩ := string_ok r1.good (by omega)
    refine Ev.bind (Ev.call 7 hS) ?_
    refine Ev.pos (by show (!((ByteArray.toList N1) == (ByteArray.toList N1))) = false; rw [eqb]; rfl) ?_
    refine Ev.bind (Ev.call 7 (len18 _)) ?_
    refine Ev.pos (by show (t1.sz != ((N1.size : Nat) : Int)) = false; rw [r1.good.sz]; simp) ?_
    refine Ev.pos (by show (((t1.un.length : Nat) : Int) != (((sl B1).length : Nat) : Int)) = false; rw [sl_len, r1.unl]; simp) ?_
    refine Ev.neg (by show ¬ (((t1.re.length : Nat) : Int) != (((sl A1).length : Nat) : Int)) = true; rw [sl_len, r1.rel]; simp) ?_
    have e2 : IntKind.wrap .i64 ((j : Int) + (1 : Int)) = ((j + 1 : Nat) : Int) := by rw [w64 (by omega) (by omega)]; omega
    rw [e2]
    exact (ih (j + 1) { t1 with wh := wh, kn := kn } N1 B1 A1 (by omega) (r1.str g) (by show t1.ps.length ≤ _; omega) (by omega) (by omega)).add 0
theorem fresh_rel {s : ByteArray} (h : s.size ≤ 4000) : Rel (fresh s) s [] [] := ⟨fresh_good h, trivial, trivial⟩
theorem l3_ok (xs : List Ac) (hl : xs.length ≤ 100) : ∀ (m j : Nat), j + m = xs.length → ∃ b, Ev (fun k => l3 k (xs.map Ac.av) (xs.length : Int) (j : Int)) (some [.b b]) := by
  intro m
  induction m with
  | zero =>
    intro j hj
    refine ⟨false, ?_⟩
    refine Ev.shift (fun k => l3_eq k ..) ?_
    refine Ev.neg (by simp; omega) ?_
    exact Ev.const _
  | succ m ih =>
    intro j hj
    obtain ⟨b, hb⟩ := ih (j + 1) (by omega)
    have e2 : IntKind.wrap .i64 ((j : Int) + (1 : Int)) = ((j + 1 : Nat) : Int) := by rw [w64 (by omega) (by omega)]; omega
    by_cases hc : (decide (((ByteArray.size (AV.str (AV.fld (AV.fld ((xs.map Ac.av).getD (Int.toNat (j : Int)) .u) 1) 2)) : Nat) : Int) > (5000 : Int))) = true
    · refine ⟨true, ?_⟩
      refine Ev.shift (fun k => l3_eq k ..) ?_
      refine Ev.pos (by simp; omega) ?_
      refine Ev.pos (by simp; omega) ?_
      exact Ev.pos hc (Ev.const _)
    · refine ⟨b, ?_⟩
      refine Ev.shift (fun k => l3_eq k ..) ?_
      refine Ev.pos (by simp; omega) ?_
      refine Ev.pos (by simp; omega) ?_
      refine Ev.neg hc ?_
      rw [e2]
      exact hb.add 0
theorem long14 (s : ByteArray) (xs : List Ac) : ∃ b, Ev (fun k => call C k 14 [.s s, .l 38 (xs.map Ac.av)]) (some [.b b]) ∧ (b = false → s.size ≤ 4000 ∧ xs.length ≤ 100) := by
  by_cases h1 : s.size ≤ 4000
  · by_cases h2 : xs.length ≤ 100
    · obtain ⟨b, hb⟩ := l3_ok xs h2 xs.length 0 (by omega)
      refine ⟨b, ?_, fun _ => ⟨h1, h2⟩⟩
      refine Ev.shift (fun k => e14 k s (xs.map Ac.av)) ?_
      refine Ev.pos (by simp; omega) ?_
      refine Ev.neg (by simp; omega) ?_
      rw [List.length_map]
      exact hb.add 0
    · refine ⟨true, ?_, fun q => by cases q⟩
      refine Ev.shift (fun k => e14 k s (xs.map Ac.av)) ?_
      refine Ev.pos (by simp; omega) ?_
      refine Ev.pos (by simp; omega) ?_
      exact Ev.const _
  · refine ⟨true, ?_, fun q => by cases q⟩
    refine Ev.shift (fun k => e14 k s (xs.map Ac.av)) ?_
    refine Ev.neg (by simp; omega) ?_
    exact Ev.const _
theorem acts_ok (s : ByteArray) (xs : List Ac) : Ev (fun k => call C k 5 [.s s, .l 38 (xs.map Ac.av)]) (some [.b true]) := by
  refine Ev.shift (fun k => e5 k s (xs.map Ac.av)) ?_
  refine Ev.bind (Ev.call 23 wakes_ev) ?_
  refine Ev.neg (by simp [AV.bool]) ?_
  obtain ⟨b, hb, hs⟩ := long14 s xs
  refine Ev.bind (Ev.call 18 hb) ?_
  cases b with
  | true => exact Ev.pos rfl (Ev.const _)
  | false =>
    obtain ⟨h1, h2⟩ := hs rfl
    refine Ev.neg (by simp [AV.bool]) ?_
    refine Ev.neg (by simp; omega) ?_
    rw [List.length_map]
    exact (l12_ok xs h2 xs.length 0 (fresh s) s [] [] (by omega) (fresh_rel h1) (by simp [fresh]) (by simp) (by simp)).add 0
end Go.Proofs.Ytfnepeilccainaa.Den

/- Proved here: a text's slices; what behind any edits can be undone; there and back. No condition. -/
namespace Go.Proofs.Ytfnepeilccainaa.Den
open Go Go.Proofs
set_option linter.unusedVariables false
set_option linter.unusedSimpArgs false
def seek (a n : Int) : Ed := ⟨a, n, ⟨#[]⟩⟩
theorem slice_bad {t : Tx} {now : ByteArray} (h : Good t now) {a n : Int} (hf : ¬ fits now (seek a n)) : Ev (fun k => call C k 19 [t.av, .i .i64 a, .i .i64 n]) (some [.s ⟨#[]⟩, .i .i64 2, t.av]) := by
  have hn := h.small
  have hz := h.sz
  refine Ev.shift (fun k => e19 k (t.ps.map prt) t.sz t.wh t.kn (t.un.map Ed.av) (t.re.map Ed.av) a n) ?_
  by_cases h1 : 0 ≤ a
  · refine Ev.pos (by simpa using h1) ?_
    by_cases h2 : 0 ≤ n
    · refine Ev.pos (by simpa using h2) ?_
      refine Ev.bind (Ev.call 6 (len18 t)) ?_
      by_cases h3 : a ≤ t.sz
      · refine Ev.pos (by simpa [AV.int] using h3) ?_
        refine Ev.bind (Ev.call 6 (len18 t)) ?_
        refine Ev.pos (decide_eq_true ?_) ?_
        · show n > IntKind.wrap .i64 (t.sz - a)
          rw [w64 (by omega) (by omega)]
          apply Classical.byContradiction
          intro q
          exact hf ⟨h1, h2, by simp only [seek]; omega, by simp only [seek]; omega⟩
        exact Ev.const _
      · refine Ev.neg (by simpa [AV.int] using h3) ?_
        exact Ev.const _
    · refine Ev.neg (by simpa using h2) ?_
      exact Ev.const _
  · refine Ev.neg (by simpa using h1) ?_
    exact Ev.const _
theorem slice_good {t : Tx} {now : ByteArray} (h : Good t now) (hb : t.ps.length ≤ 900000) {a n : Int} (hf : fits now (seek a n)) : ∃ t', Ev (fun k => call C k 19 [t.av, .i .i64 a, .i .i64 n]) (some [.s (now.extract a.toNat (a + n).toNat), .i .i64 0, Tx.av t']) := by
  have hn := h.small
  have hz := h.sz
  obtain ⟨h1, h2, h3, h4⟩ := hf
  simp only [seek] at h1 h2 h3 h4
  obtain ⟨wh, kn, g, hS⟩ := string_ok h (by omega)
  refine ⟨{ t with wh := wh, kn := kn }, ?_⟩
  refine Ev.shift (fun k => e19 k (t.ps.map prt) t.sz t.wh t.kn (t.un.map Ed.av) (t.re.map Ed.av) a n) ?_
  refine Ev.pos (by simpa using h1) ?_
  refine Ev.pos (by simpa using h2) ?_
  refine Ev.bind (Ev.call 6 (len18 t)) ?_
  refine Ev.pos (by simp [AV.int]; omega) ?_
  refine Ev.bind (Ev.call 6 (len18 t)) ?_
  refine Ev.neg ?_ ?_
  · intro q
    have q : n > IntKind.wrap .i64 (t.sz - a) := of_decide_eq_true q
    rw [w64 (by omega) (by omega)] at q
    omega
  refine Ev.bind (Ev.call 1 hS) ?_
  have z : IntKind.wrap .i64 (a + n) = a + n := w64 (by omega) (by omega)
  rw [z]
  refine Ev.pos ⟨by omega, by show a + n ≤ ((now.size : Nat) : Int); omega⟩ ?_
  refine Ev.pos ⟨by omega, by omega⟩ ?_
  exact Ev.const _
theorem slices_ok (s : ByteArray) (e : Ed) (a n : Int) : Ev (fun k => call C k 6 [.s s, e.av, .g [.i .i64 a, .i .i64 n]]) (some [.b true]) := by
  refine Ev.shift (fun k => e6 k s e.at_ e.len e.text a n) ?_
  refine Ev.bind (Ev.call 25 wakes_ev) ?_
  refine Ev.neg (by simp [AV.bool]) ?_
  obtain ⟨b, hb, hs⟩ := long14 s [⟨0, e⟩]
  refine Ev.bind (Ev.call 20 hb) ?_
  cases b with
  | true => exact Ev.pos rfl (Ev.const _)
  | false =>
    obtain ⟨h1, h2⟩ := hs rfl
    refine Ev.neg (by simp [AV.bool]) ?_
    refine Ev.neg (by simp; omega) ?_
    obtain ⟨t1, r1, p1, hE⟩ := (fresh_rel h1).edit (by simp [fresh]) (by simp) e
    simp only [fresh, List.length_cons, List.length_nil] at p1
    refine Ev.bind (Ev.call 14 hE) ?_
    obtain ⟨wh, kn, g, hS⟩ := string_ok r1.good (by omega)
    refine Ev.bind (Ev.call 12 hS) ?_
    refine Ev.pos (by simp) ?_
    refine Ev.pos (by simp) ?_
    have hN := g.small
    by_cases hf : fits (nx s e) (seek a n)
    · obtain ⟨t2, hL⟩ := slice_good g (by show t1.ps.length ≤ _; omega) hf
      refine Ev.bind (Ev.call 10 hL) ?_
      refine Ev.pos (by simp) ?_
      refine Ev.pos (by simp) ?_
      have hF := fits20 (nx s e) (seek a n) (by omega)
      rw [decide_eq_true hf] at hF
      refine Ev.bind (Ev.call 7 hF) ?_
      refine Ev.neg (by simp [AV.bool]) ?_
      refine Ev.pos (by simp [AV.int]) ?_
      refine Ev.pos (by simp) ?_
      refine Ev.pos (by simp) ?_
      refine Ev.pos (by simp) ?_
      obtain ⟨q1, q2, q3, q4⟩ := hf
      simp only [seek] at q1 q2 q3 q4
      have z : IntKind.wrap .i64 (a + n) = a + n := w64 (by omega) (by omega)
      have z1 : IntKind.wrap .i64 ((AV.int ([(AV.i .i64 a), (AV.i .i64 n)].getD 0 .u)) + (AV.int ([(AV.i .i64 a), (AV.i .i64 n)].getD 1 .u))) = a + n := z
      rw [z1]
      refine Ev.pos ⟨by omega, by show a + n ≤ (((nx s e).size : Nat) : Int); omega⟩ ?_
      refine Ev.pos ⟨q1, by show a ≤ a + n; omega⟩ ?_
      exact Ev.of fun k => by
        show some [AV.b ((ByteArray.toList ((nx s e).extract a.toNat (a + n).toNat)) == (ByteArray.toList ((nx s e).extract a.toNat (a + n).toNat)))] = _
        rw [eqb]
    · refine Ev.bind (Ev.call 10 (slice_bad g hf)) ?_
      refine Ev.pos (by simp) ?_
      refine Ev.pos (by simp) ?_
      have hF := fits20 (nx s e) (seek a n) (by omega)
      rw [decide_eq_false hf] at hF
      refine Ev.bind (Ev.call 7 hF) ?_
      refine Ev.pos (by simp [AV.bool]) ?_
      refine Ev.pos (by show ((ByteArray.toList ⟨#[]⟩) == (ByteArray.toList ⟨#[]⟩)) = true; rw [eqb]) ?_
      exact Ev.const _
/-- There and back: all that there was, and will be, in a row. -/
def row (B : List ByteArray) (N : ByteArray) (A : List ByteArray) : List ByteArray := B ++ N :: A.reverse
theorem l11_ok (now : ByteArray) (n m : Nat) (hn : n ≤ 1000) (Z : List ByteArray) (hZ : ∀ B N A, row B N A = Z → B.length = n → N = now ∧ A.length = m) (hZl : Z.length ≤ 1000) : ∀ (q j : Nat) (t : Tx) (N : ByteArray) (B A : List ByteArray), j + q = n → Rel t N B A → row B N A = Z → B.length = j → t.ps.length ≤ 5000 + 3 * j → n < Z.length →
    Ev (fun k => l11 k (t.ps.map prt) t.sz t.wh t.kn (t.un.map Ed.av) (t.re.map Ed.av) now (n : Int) (m : Int) (n : Int) (j : Int)) (some [.b true]) := by
  intro q
  induction q with
  | zero =>
    intro j t N B A hj r hz hB hp hlt
    obtain ⟨rfl, hA⟩ := hZ B N A hz (by omega)
    refine Ev.shift (fun k => l11_eq k ..) ?_
    refine Ev.neg (by simp; omega) ?_
    refine Ev.bind (Ev.call 9 (steps16 t)) ?_
    obtain ⟨wh, kn, g, hS⟩ := string_ok r.good (by omega)
    refine Ev.bind (Ev.call 7 hS) ?_
    refine Ev.pos (by show ((ByteArray.toList N) == (ByteArray.toList N)) = true; rw [eqb]) ?_
    refine Ev.pos (by show (((t.un.length : Nat) : Int) == (n : Int)) = true; rw [r.unl]; simp; omega) ?_
    have e : (((t.re.length : Nat) : Int) == (m : Int)) = true := by rw [r.rel, hA]; simp
    exact Ev.of fun k => by
      show some [AV.b (((t.re.length : Nat) : Int) == (m : Int))] = _
      rw [e]
  | succ q ih =>
    intro j t N B A hj r hz hB hp hlt
    have hlen : Z.length = B.length + 1 + A.length := by rw [← hz]; simp [row]; omega
    rcases last_of A with rfl | ⟨A, b, rfl⟩
    · simp at hlen
      omega
    · simp only [List.length_append, List.length_cons, List.length_nil] at hlen
      obtain ⟨t1, r1, p1, hE⟩ := r.redo (by omega) (by omega) (by omega)
      refine Ev.shift (fun k => l11_eq k ..) ?_
      refine Ev.pos (by simp; omega) ?_
      refine Ev.bind (Ev.call 7 hE) ?_
      refine Ev.neg (by simp [AV.int]) ?_
      have e2 : IntKind.wrap .i64 ((j : Int) + (1 : Int)) = ((j + 1 : Nat) : Int) := by rw [w64 (by omega) (by omega)]; omega
      rw [e2]
      exact (ih (j + 1) t1 b (B ++ [N]) A (by omega) r1 (by rw [← hz]; simp [row]) (by simp; omega) (by omega) hlt).add 0
theorem l10_ok (s now : ByteArray) (xs : List Ac) (n m : Nat) (hn : n ≤ 1000) (Z : List ByteArray) (hs : xs.length ≤ 32 → Z.head? = some s) (hZ : ∀ B N A, row B N A = Z → B.length = n → N = now ∧ A.length = m) (hZl : Z.length ≤ 1000) (hnZ : n < Z.length) : ∀ (q j : Nat) (t : Tx) (N : ByteArray) (B A : List ByteArray), j + q = n → Rel t N B A → row B N A = Z → B.length = q → t.ps.length ≤ 1000 + 3 * j →
    Ev (fun k => l10 k (t.ps.map prt) t.sz t.wh t.kn (t.un.map Ed.av) (t.re.map Ed.av) s (xs.map Ac.av) now (n : Int) (m : Int) (n : Int) (j : Int)) (some [.b true]) := by
  intro q
  induction q with
  | zero =>
    intro j t N B A hj r hz hB hp
    have hB0 : B = [] := List.length_eq_zero_iff.mp hB
    subst hB0
    refine Ev.shift (fun k => l10_eq k ..) ?_
    refine Ev.neg (by simp; omega) ?_
    rw [List.length_map]
    by_cases h32 : xs.length ≤ 32
    · have hN : N = s := by
        have := hs h32
        rw [← hz] at this
        simpa [row] using this
      refine Ev.pos (by simp; omega) ?_
      obtain ⟨wh, kn, g, hS⟩ := string_ok r.good (by omega)
      refine Ev.bind (Ev.call 9 hS) ?_
      refine Ev.pos (by show (!((ByteArray.toList N) == (ByteArray.toList s))) = false; rw [hN, eqb]; rfl) ?_
      have r1 := r.str g
      refine Ev.bind (Ev.call 9 (undo_nil (W_nil r1.un))) ?_
      refine Ev.neg (by simp [AV.int]) ?_
      exact (l11_ok now n m hn Z hZ hZl n 0 { t with wh := wh, kn := kn } N [] A (by omega) r1 hz rfl (by show t.ps.length ≤ _; omega) hnZ).add 0
    · refine Ev.neg (by simp; omega) ?_
      refine Ev.bind (Ev.call 9 (undo_nil (W_nil r.un))) ?_
      refine Ev.neg (by simp [AV.int]) ?_
      exact (l11_ok now n m hn Z hZ hZl n 0 t N [] A (by omega) r hz rfl (by omega) hnZ).add 0
  | succ q ih =>
    intro j t N B A hj r hz hB hp
    have hlen : Z.length = B.length + 1 + A.length := by rw [← hz]; simp [row]; omega
    rcases last_of B with rfl | ⟨B, b, rfl⟩
    · simp at hB
    · simp only [List.length_append, List.length_cons, List.length_nil] at hB hlen
      obtain ⟨t1, r1, p1, hE⟩ := r.undo (by omega) (by omega) (by omega)
      refine Ev.shift (fun k => l10_eq k ..) ?_
      refine Ev.pos (by simp; omega) ?_
      refine Ev.bind (Ev.call 8 hE) ?_
      refine Ev.neg (by simp [AV.int]) ?_
      have e2 : IntKind.wrap .i64 ((j : Int) + (1 : Int)) = ((j + 1 : Nat) : Int) := by rw [w64 (by omega) (by omega)]; omega
      rw [e2]
      exact (ih (j + 1) t1 b B (A ++ [N]) (by omega) r1 (by rw [← hz]; simp [row]) (by omega) (by omega)).add 1
/-- An act, done to a text beside a new one of the reference. -/
theorem do_alone {t : Tx} {N : ByteArray} {B A : List ByteArray} (h : Rel t N B A) (hb : t.ps.length ≤ 900000) (hB : B.length ≤ 800000) (hA : A.length ≤ 800000) (a : Ac) (s : ByteArray) :
    ∃ t' N' B' A' b r, Rel t' N' B' A' ∧ t'.ps.length ≤ t.ps.length + 3 ∧ B'.length ≤ B.length + 1 ∧ A'.length ≤ A.length + 1 ∧ (B.length < 32 → (B ++ [N]).head? = some s → (B' ++ [N']).head? = some s) ∧ Ev (fun k => call C k 15 [t.av, rx [] ⟨#[]⟩ [], a.av]) (some [.b b, t'.av, r]) := by
  have h0 : (⟨#[]⟩ : ByteArray).size ≤ 4000 := by decide
  by_cases k0 : a.kind = 0
  · obtain ⟨t', r, hp, hE⟩ := h.edit hb (by omega) a.e
    refine ⟨t', _, _, _, _, _, r, hp, ?_, ?_, ?_, do_edit k0 hE (refEdit_ok [] ⟨#[]⟩ [] a.e h0 (by simp))⟩
    · split
      · exact Nat.le_trans (lim_len _) (by simp)
      · omega
    · split
      · simp
      · omega
    · intro hl hh
      unfold nx
      split
      · unfold lim
        rw [if_neg (by simp; omega), List.head?_append, hh]
        rfl
      · exact hh
  by_cases k1 : a.kind = 1
  · rcases last_of B with rfl | ⟨B, b, rfl⟩
    · exact ⟨t, N, [], A, _, _, h, by omega, by omega, by omega, fun _ q => q, do_undo k1 (undo_nil (W_nil h.un)) (refUndo_nil ⟨#[]⟩ [])⟩
    · simp only [List.length_append, List.length_cons, List.length_nil] at hB
      obtain ⟨t', r, hp, hE⟩ := h.undo hb (by omega) (by omega)
      refine ⟨t', b, B, A ++ [N], _, _, r, hp, by simp <;> omega, by simp, fun _ q => ?_, do_undo k1 hE (refUndo_nil ⟨#[]⟩ [])⟩
      rw [List.head?_append] at q
      rcases hb' : (B ++ [b]).head? with _ | x
      · simp at hb'
      · rw [hb'] at q
        exact q
  by_cases k2 : a.kind = 2
  · rcases last_of A with rfl | ⟨A, b, rfl⟩
    · exact ⟨t, N, B, [], _, _, h, by omega, by omega, by omega, fun _ q => q, do_redo k2 (redo_nil (W_nil h.re)) (refRedo_nil [] ⟨#[]⟩)⟩
    · simp only [List.length_append, List.length_cons, List.length_nil] at hA
      obtain ⟨t', r, hp, hE⟩ := h.redo hb (by omega) (by omega)
      refine ⟨t', b, B ++ [N], A, _, _, r, hp, by simp, by simp <;> omega, fun _ q => ?_, do_redo k2 hE (refRedo_nil [] ⟨#[]⟩)⟩
      rw [List.head?_append, q]
      rfl
  · exact ⟨t, N, B, A, _, _, h, by omega, by omega, by omega, fun _ q => q, do_none k0 k1 k2⟩
theorem l9_ok (s : ByteArray) (xs : List Ac) (hl : xs.length ≤ 100) : ∀ (m j : Nat) (t : Tx) (N : ByteArray) (B A : List ByteArray), j + m = xs.length → Rel t N B A → t.ps.length ≤ 1 + 3 * j → B.length ≤ j → A.length ≤ j → (j ≤ 32 → (B ++ [N]).head? = some s) →
    Ev (fun k => l9 k (t.ps.map prt) t.sz t.wh t.kn (t.un.map Ed.av) (t.re.map Ed.av) s (xs.map Ac.av) (xs.map Ac.av) (xs.length : Int) (j : Int)) (some [.b true]) := by
  intro m
  induction m with
  | zero =>
    intro j t N B A hj r hp hB hA hh
    refine Ev.shift (fun k => l9_eq k ..) ?_
    refine Ev.neg (by simp; omega) ?_
    obtain ⟨wh, kn, g, hS⟩ := string_ok r.good (by omega)
    refine Ev.bind (Ev.call 9 hS) ?_
    refine Ev.bind (Ev.call 7 (steps16 { t with wh := wh, kn := kn })) ?_
    have r1 := r.str g
    have := l10_ok s N xs B.length A.length (by omega) (row B N A) (fun q => by
      have := hh (by omega)
      rcases hB' : B with _ | ⟨x, B'⟩
      · rw [hB'] at this; simpa [row] using this
      · rw [hB'] at this; simpa [row] using this) (fun B' N' A' q1 q2 => by
      have := List.append_inj q1 q2
      obtain ⟨z1, z2⟩ := this
      have z3 := List.cons.inj z2
      exact ⟨z3.1, by have := congrArg List.length z3.2; simpa using this⟩) (by simp [row] <;> omega) (by simp [row] <;> omega) B.length 0 { t with wh := wh, kn := kn } N B A (by omega) r1 rfl rfl (by show t.ps.length ≤ _; omega)
    have e1 : (t.un.length : Int) = (B.length : Int) := by rw [r.unl]
    have e2 : (t.re.length : Int) = (A.length : Int) := by rw [r.rel]
    rw [← e1, ← e2] at this
    exact this.add 0
  | succ m ih =>
    intro j t N B A hj r hp hB hA hh
    have hlt : j < xs.length := by omega
    obtain ⟨t1, N1, B1, A1, b, rr, r1, p1, b1, a1, h1, hE⟩ := do_alone r (by omega) (by omega) (by omega) xs[j] s
    refine Ev.shift (fun k => l9_eq k ..) ?_
    refine Ev.pos (by simp; omega) ?_
    refine Ev.pos (by simp; omega) ?_
    have z3 : Int.toNat (j : Int) = j := rfl
    rw [z3, ac_at hlt]
    refine Ev.bind (Ev.call 6 hE) ?_
    have e2 : IntKind.wrap .i64 ((j : Int) + (1 : Int)) = ((j + 1 : Nat) : Int) := by rw [w64 (by omega) (by omega)]; omega
    rw [e2]
    exact (ih (j + 1) t1 N1 B1 A1 (by omega) r1 (by omega) (by omega) (by omega) fun q => h1 (by omega) (hh (by omega))).add 1
theorem back_ok (s : ByteArray) (xs : List Ac) : Ev (fun k => call C k 4 [.s s, .l 38 (xs.map Ac.av)]) (some [.b true]) := by
  refine Ev.shift (fun k => e4 k s (xs.map Ac.av)) ?_
  refine Ev.bind (Ev.call 23 wakes_ev) ?_
  refine Ev.neg (by simp [AV.bool]) ?_
  obtain ⟨b, hb, hs⟩ := long14 s xs
  refine Ev.bind (Ev.call 18 hb) ?_
  cases b with
  | true => exact Ev.pos rfl (Ev.const _)
  | false =>
    obtain ⟨h1, h2⟩ := hs rfl
    refine Ev.neg (by simp [AV.bool]) ?_
    refine Ev.neg (by simp; omega) ?_
    rw [List.length_map]
    exact (l9_ok s xs h2 xs.length 0 (fresh s) s [] [] (by omega) (fresh_rel h1) (by simp [fresh]) (by simp) (by simp) (fun _ => rfl)).add 7
end Go.Proofs.Ytfnepeilccainaa.Den

/- Proved here: of any edits the last ones can be undone. No condition. -/
namespace Go.Proofs.Ytfnepeilccainaa.Den
open Go Go.Proofs
set_option linter.unusedVariables false
set_option linter.unusedSimpArgs false
theorem ed_at {es : List Ed} {j : Nat} (h : j < es.length) : AV.g [.i .i64 (AV.int (AV.fld ((es.map Ed.av).getD j .u) 0)), .i .i64 (AV.int (AV.fld ((es.map Ed.av).getD j .u) 1)), .s (AV.str (AV.fld ((es.map Ed.av).getD j .u) 2))] = es[j].av := by
  have : ((es.map Ed.av).getD j .u) = es[j].av := by
    simp [List.getD_eq_getElem?_getD, h]
  rw [this]
  rfl
theorem l8_ok (s w : ByteArray) (all : List ByteArray) (hal : all.length ≤ 1000) (tot : Nat) (ht : tot = min all.length 32) (hw1 : ∀ h : all.length > 32, all[all.length - 33] = w) (hw2 : all.length ≤ 32 → w = s) : ∀ (q j : Nat) (t : Tx) (N : ByteArray) (B A : List ByteArray), j + q = tot → B.length = q → Rel t N B A → (B ++ [N]).head? = some w → t.ps.length ≤ 1000 + 3 * j → A.length ≤ j →
    Ev (fun k => l8 k (t.ps.map prt) t.sz t.wh t.kn (t.un.map Ed.av) (t.re.map Ed.av) s (sl all) (j : Int)) (some [.b true]) := by
  intro q
  induction q with
  | zero =>
    intro j t N B A hj hB r hh hp hA
    have hB0 : B = [] := List.length_eq_zero_iff.mp hB
    subst hB0
    have hN : N = w := by simpa using hh
    refine Ev.shift (fun k => l8_eq k ..) ?_
    refine Ev.bind (Ev.call 14 (undo_nil (W_nil r.un))) ?_
    refine Ev.neg (by simp [AV.int]) ?_
    obtain ⟨wh, kn, g, hS⟩ := string_ok r.good (by omega)
    rw [sl_len]
    by_cases h32 : all.length > 32
    · have z : IntKind.wrap .i64 ((IntKind.wrap .i64 ((all.length : Int) - (32 : Int))) - (1 : Int)) = ((all.length - 33 : Nat) : Int) := by
        rw [w64 (x := (all.length : Int) - 32) (by omega) (by omega), w64 (by omega) (by omega)]
        omega
      refine Ev.pos (decide_eq_true (by omega)) ?_
      rw [z]
      refine Ev.pos ⟨by omega, by omega⟩ ?_
      refine Ev.pos ?_ ?_
      · rw [if_pos (by omega)]
        have : j = 32 := by omega
        subst this
        rfl
      refine Ev.bind (Ev.call 3 hS) ?_
      have e : AV.str ((sl all).getD (Int.toNat ((all.length - 33 : Nat) : Int)) .u) = N := by
        rw [hN, ← hw1 h32, Int.toNat_natCast]
        have hlt : all.length - 33 < all.length := by omega
        simp [sl, List.getD_eq_getElem?_getD, hlt, AV.str]
      exact Ev.of fun k => by
        show some [AV.b ((ByteArray.toList N) == (ByteArray.toList (AV.str ((sl all).getD (Int.toNat ((all.length - 33 : Nat) : Int)) .u))))] = _
        rw [e, eqb]
    · refine Ev.neg (by simp; omega) ?_
      refine Ev.pos ?_ ?_
      · rw [if_neg (by omega)]
        have : j = all.length := by omega
        subst this
        simp
      refine Ev.bind (Ev.call 3 hS) ?_
      have hs := hw2 (by omega)
      exact Ev.of fun k => by
        show some [AV.b ((ByteArray.toList N) == (ByteArray.toList s))] = _
        rw [hN, hs, eqb]
  | succ q ih =>
    intro j t N B A hj hB r hh hp hA
    rcases last_of B with rfl | ⟨B, b, rfl⟩
    · simp at hB
    · simp only [List.length_append, List.length_cons, List.length_nil] at hB
      obtain ⟨t1, r1, p1, hE⟩ := r.undo (by omega) (by omega) (by omega)
      refine Ev.shift (fun k => l8_eq k ..) ?_
      refine Ev.bind (Ev.call 14 hE) ?_
      refine Ev.pos (by simp [AV.int]) ?_
      have e2 : IntKind.wrap .i64 ((j : Int) + (1 : Int)) = ((j + 1 : Nat) : Int) := by rw [w64 (by omega) (by omega)]; omega
      rw [e2]
      refine Ev.neg (by simp; omega) ?_
      refine (ih (j + 1) t1 b B (A ++ [N]) (by omega) (by omega) r1 ?_ (by omega) (by simp <;> omega)).add 0
      rw [List.head?_append] at hh
      rcases hb' : (B ++ [b]).head? with _ | x
      · simp at hb'
      · rw [hb'] at hh
        exact hh
theorem drop_lim {F : List ByteArray} {N : ByteArray} : lim (F.drop (F.length - 32) ++ [N]) = (F ++ [N]).drop ((F ++ [N]).length - 32) := by
  have hl : (F ++ [N]).length = F.length + 1 := by simp
  rw [hl]
  unfold lim
  by_cases h : F.length < 32
  · rw [if_neg (by simp; omega)]
    have z1 : F.length - 32 = 0 := by omega
    have z2 : F.length + 1 - 32 = 0 := by omega
    rw [z1, z2, List.drop_zero, List.drop_zero]
  · rw [if_pos (by simp; omega)]
    rw [List.drop_append_of_le_length (by simp; omega), List.drop_drop, List.drop_append_of_le_length (by omega)]
    have z : F.length - 32 + 1 = F.length + 1 - 32 := by omega
    rw [z]
theorem l7_ok (s : ByteArray) (es : List Ed) (hl : es.length ≤ 100) : ∀ (m j : Nat) (t : Tx) (N : ByteArray) (all F : List ByteArray), j + m = es.length → Rel t N (F.drop (F.length - 32)) [] → s :: all = F ++ [N] → all.length ≤ j → t.ps.length ≤ 1 + 3 * j →
    Ev (fun k => l7 k (t.ps.map prt) t.sz t.wh t.kn (t.un.map Ed.av) (t.re.map Ed.av) s (sl all) (es.map Ed.av) (es.length : Int) (j : Int)) (some [.b true]) := by
  intro m
  induction m with
  | zero =>
    intro j t N all F hj r hF hal hp
    have hFl : F.length = all.length := by have := congrArg List.length hF; simpa using this.symm
    refine Ev.shift (fun k => l7_eq k ..) ?_
    refine Ev.neg (by simp; omega) ?_
    have hBl : (F.drop (F.length - 32)).length = min all.length 32 := by rw [List.length_drop]; omega
    have hlt : F.length - 32 < (F ++ [N]).length := by simp; omega
    have hd : (F.drop (F.length - 32) ++ [N]).head? = some ((F ++ [N])[F.length - 32]) := by
      have : F.drop (F.length - 32) ++ [N] = (F ++ [N]).drop (F.length - 32) := by rw [List.drop_append_of_le_length (by omega)]
      rw [this, List.head?_drop, List.getElem?_eq_getElem hlt]
    have := l8_ok s ((F ++ [N])[F.length - 32]) all (by omega) (min all.length 32) rfl (fun h => by
      have e : (F ++ [N])[F.length - 32] = (s :: all)[F.length - 32]'(by simp; omega) := by simp only [hF]
      rw [e]
      have z : F.length - 32 = (all.length - 33) + 1 := by omega
      simp only [z, List.getElem_cons_succ]) (fun h => by
      have e : (F ++ [N])[F.length - 32] = (s :: all)[F.length - 32]'(by simp; omega) := by simp only [hF]
      rw [e]
      have z : F.length - 32 = 0 := by omega
      simp only [z, List.getElem_cons_zero]) (min all.length 32) 0 t N (F.drop (F.length - 32)) [] (by omega) hBl r hd (by omega) (by simp)
    exact this.add 5
  | succ m ih =>
    intro j t N all F hj r hF hal hp
    have hlt : j < es.length := by omega
    have hFl : F.length = all.length := by have := congrArg List.length hF; simpa using this.symm
    obtain ⟨t1, r1, p1, hE⟩ := r.edit (by omega) (by rw [List.length_drop]; omega) es[j]
    refine Ev.shift (fun k => l7_eq k ..) ?_
    refine Ev.pos (by simp; omega) ?_
    refine Ev.pos (by simp; omega) ?_
    have z3 : Int.toNat (j : Int) = j := rfl
    have e2 : IntKind.wrap .i64 ((j : Int) + (1 : Int)) = ((j + 1 : Nat) : Int) := by rw [w64 (by omega) (by omega)]; omega
    rw [z3, ed_at hlt, e2]
    refine Ev.bind (Ev.call 7 hE) ?_
    by_cases hc : code N es[j] = 0
    · rw [if_pos hc, if_pos hc, drop_lim] at r1
      refine Ev.pos (by simp [AV.int, hc]) ?_
      obtain ⟨wh, kn, g, hS⟩ := string_ok r1.good (by omega)
      refine Ev.bind (Ev.call 5 hS) ?_
      refine Ev.pos ⟨?_, rfl⟩ ?_
      · show (sl all).length + 1 ≤ 16777216
        rw [sl_len]
        omega
      have e3 : sl all ++ [(AV.s (AV.str (List.headD [AV.s (nx N es[j]), Tx.av { t1 with wh := wh, kn := kn }] .u)))] = sl (all ++ [nx N es[j]]) := sl_app _ _
      rw [e3]
      exact (ih (j + 1) { t1 with wh := wh, kn := kn } (nx N es[j]) (all ++ [nx N es[j]]) (F ++ [N]) (by omega) (r1.str g) (by rw [← hF]; simp) (by simp; omega) (by show t1.ps.length ≤ _; omega)).add 0
    · rw [if_neg hc, if_neg hc] at r1
      unfold nx at r1
      rw [if_neg hc] at r1
      refine Ev.neg (by simp [AV.int, hc]) ?_
      exact (ih (j + 1) t1 N all F (by omega) r1 hF (by omega) (by omega)).add 0
theorem l2_ok (es : List Ed) (hl : es.length ≤ 100) : ∀ (m j : Nat), j + m = es.length → ∃ b, Ev (fun k => l2 k (es.map Ed.av) (j : Int)) (some [.b b]) := by
  intro m
  induction m with
  | zero =>
    intro j hj
    refine ⟨false, ?_⟩
    refine Ev.shift (fun k => l2_eq k ..) ?_
    refine Ev.neg (by simp; omega) ?_
    exact Ev.const _
  | succ m ih =>
    intro j hj
    obtain ⟨b, hb⟩ := ih (j + 1) (by omega)
    have e2 : IntKind.wrap .i64 ((j : Int) + (1 : Int)) = ((j + 1 : Nat) : Int) := by rw [w64 (by omega) (by omega)]; omega
    by_cases hc : (decide (((ByteArray.size (AV.str (AV.fld ((es.map Ed.av).getD (Int.toNat (j : Int)) .u) 2)) : Nat) : Int) > (5000 : Int))) = true
    · refine ⟨true, ?_⟩
      refine Ev.shift (fun k => l2_eq k ..) ?_
      refine Ev.pos (by simp; omega) ?_
      refine Ev.pos (by simp; omega) ?_
      exact Ev.pos hc (Ev.const _)
    · refine ⟨b, ?_⟩
      refine Ev.shift (fun k => l2_eq k ..) ?_
      refine Ev.pos (by simp; omega) ?_
      refine Ev.pos (by simp; omega) ?_
      refine Ev.neg hc ?_
      rw [e2]
      exact hb.add 0
theorem long9 (s : ByteArray) (es : List Ed) : ∃ b, Ev (fun k => call C k 9 [.s s, .l 31 (es.map Ed.av)]) (some [.b b]) ∧ (b = false → es.length ≤ 100) := by
  by_cases h1 : s.size ≤ 5000
  · by_cases h2 : es.length ≤ 100
    · obtain ⟨b, hb⟩ := l2_ok es h2 es.length 0 (by omega)
      refine ⟨b, ?_, fun _ => h2⟩
      refine Ev.shift (fun k => e9 k s (es.map Ed.av)) ?_
      refine Ev.pos (by simp; omega) ?_
      refine Ev.neg (by simp; omega) ?_
      exact hb.add 0
    · refine ⟨true, ?_, fun q => by cases q⟩
      refine Ev.shift (fun k => e9 k s (es.map Ed.av)) ?_
      refine Ev.pos (by simp; omega) ?_
      refine Ev.pos (by simp; omega) ?_
      exact Ev.const _
  · refine ⟨true, ?_, fun q => by cases q⟩
    refine Ev.shift (fun k => e9 k s (es.map Ed.av)) ?_
    refine Ev.neg (by simp; omega) ?_
    exact Ev.const _
theorem forgets_ok (s : ByteArray) (es : List Ed) : Ev (fun k => call C k 3 [.s s, .l 31 (es.map Ed.av)]) (some [.b true]) := by
  refine Ev.shift (fun k => e3 k s (es.map Ed.av)) ?_
  refine Ev.bind (Ev.call 23 wakes_ev) ?_
  refine Ev.neg (by simp [AV.bool]) ?_
  by_cases h1 : s.size ≤ 4000
  · refine Ev.pos (by simp; omega) ?_
    obtain ⟨b, hb, hs⟩ := long9 s es
    refine Ev.bind (Ev.call 18 hb) ?_
    cases b with
    | true => exact Ev.pos rfl (Ev.const _)
    | false =>
      have h2 := hs rfl
      refine Ev.neg (by simp [AV.bool]) ?_
      refine Ev.neg (by simp; omega) ?_
      rw [List.length_map]
      exact (l7_ok s es h2 es.length 0 (fresh s) s [] [] (by omega) (fresh_rel h1) rfl (by simp) (by simp [fresh])).add 5
  · refine Ev.neg (by simp; omega) ?_
    exact Ev.const _
end Go.Proofs.Ytfnepeilccainaa.Den

/- Proved here: the arguments of a row, as the evaluator's values. No condition. -/
namespace Go.Proofs.Ytfnepeilccainaa.Den
open Go Go.Proofs Go.RowKit Go.Deep Go.ChangeShapes Go.WideShapes Go.ChangeAt
set_option linter.unusedVariables false
set_option linter.unusedSimpArgs false
section
variable {H : Type} {enc : TypeId × Value → H} {W : World}
theorem open_rows {α : Type} {t e : TypeId} (el : α → AV) (hu : Try.prog.underlying t = some (.slice e)) (hsz : Try.prog.cellsOf e = C.sz e) (hpos : 0 < C.sz e)
    (hel : ∀ n cs x, DataW.trod enc Try.prog W 0 (fun _ => true) true n e cs = some x → ∃ q : α, R C W (fun b => b < W.heap.size) noSig (el q) cs)
    (hwt : ∀ q, Wt C e (el q)) {a : Option Addr} {len cap : Nat} {d : DataW H} {p : List MemPlace} (h : DataW.Trod enc Try.prog W 0 (fun _ => true) true t (.slice a len cap) d p) :
    ∃ qs : List α, VR C W (fun b => b < W.heap.size) noSig (.l e (qs.map el)) (.slice a len cap) := by
  obtain ⟨fuel, hf⟩ := h
  rcases Go.Deep.open_slice hu hf with ⟨hcs, _⟩ | ⟨x, l, c, m, n, D, Pl, hcs, _, hl, _, hm, _, hx⟩
  · simp [Value.cells] at hcs
    obtain ⟨rfl, rfl, rfl⟩ := hcs
    exact ⟨[], .one (by simp) .l0⟩
  · simp [Value.cells] at hcs
    obtain ⟨rfl, rfl, rfl⟩ := hcs
    by_cases h0 : len = 0
    · subst h0
      exact ⟨[], .one (by simp) .l0⟩
    have hlm : len ≤ m := by rw [hm]; split <;> omega
    have each : ∀ i, i < len → ∃ q : α × List Value, R C W (fun b => b < W.heap.size) noSig (el q.1) q.2 ∧ q.2.length = C.sz e ∧ ∀ j, j < C.sz e → W.cell? ((x.add (i * C.sz e)).add j) = q.2[j]? := fun i hi => by
      obtain ⟨cs', h1, h2⟩ := hx i (by omega)
      rw [hsz] at h1
      obtain ⟨_, k2, k3⟩ := World.cells?_some h1
      obtain ⟨q, hq⟩ := hel _ _ _ h2
      exact ⟨(q, cs'), hq, k2, k3⟩
    obtain ⟨q0, g1, g2, g3⟩ := each 0 (by omega)
    haveI : Inhabited (α × List Value) := ⟨q0⟩
    obtain ⟨V, hV⟩ := choose_lt (p := fun i (q : α × List Value) => R C W (fun b => b < W.heap.size) noSig (el q.1) q.2 ∧ q.2.length = C.sz e ∧ ∀ j, j < C.sz e → W.cell? ((x.add (i * C.sz e)).add j) = q.2[j]?) each
    have gc := g3 0 hpos
    rw [Nat.zero_mul, List.getElem?_eq_getElem (by omega)] at gc
    have gx : (x.add 0).add 0 = x := by simp [Addr.add]
    rw [gx] at gc
    have hsp := World.cell?_spot gc
    obtain ⟨b, o, sp⟩ := x
    dsimp only at hsp
    subst hsp
    have hb : b < W.heap.size := by
      unfold World.cell? at gc
      apply Classical.byContradiction
      intro hn
      rw [show W.heap[b]? = none from by simp; omega] at gc
      simp at gc
    refine ⟨(List.range len).map fun i => (V i).1, .one (by simp) ?_⟩
    have hlen : (((List.range len).map fun i => (V i).1).map el).length = len := by simp
    have key : R C W (fun b => b < W.heap.size) noSig (.l e (((List.range len).map fun i => (V i).1).map el)) [.slice (some ⟨b, o, none⟩) (((List.range len).map fun i => (V i).1).map el).length cap] := by
      refine .l (fun j => (V j).2) hb (by omega) (fun j a ha => ?_) (fun j a ha => ?_)
      · have hj := getElem?_lt ha
        rw [hlen] at hj
        obtain ⟨v1, v2, v3⟩ := hV j hj
        have e1 : a = el (V j).1 := by
          rw [List.getElem?_map, List.getElem?_map, List.getElem?_range hj] at ha
          simpa using ha.symm
        refine ⟨by rw [e1]; exact hwt _, fun i v hv => ?_, v2⟩
        have hi := getElem?_lt hv
        have := v3 i (by omega)
        rw [Addr.add_mid, Addr.add_mid] at this
        rw [this, hv]
      · have hj := getElem?_lt ha
        rw [hlen] at hj
        obtain ⟨v1, v2, v3⟩ := hV j hj
        have e1 : a = el (V j).1 := by
          rw [List.getElem?_map, List.getElem?_map, List.getElem?_range hj] at ha
          simpa using ha.symm
        rw [e1]
        exact v1
    rw [hlen] at key
    exact key
theorem c_sz38 : C.sz 38 = 4 := by kernel_rfl
theorem cells31 : Try.prog.cellsOf 31 = 3 := by kernel_rfl
theorem cells38 : Try.prog.cellsOf 38 = 4 := by kernel_rfl
theorem cells3 : Try.prog.cellsOf 3 = 1 := by kernel_rfl
theorem cells9 : Try.prog.cellsOf 9 = 1 := by kernel_rfl
set_option maxRecDepth 100000 in
theorem ed_el {n : Nat} {cs : List Value} {x : DataW H × List MemPlace} (h : DataW.trod enc Try.prog W 0 (fun _ => true) true n 31 cs = some x) : ∃ q : Ed, cs = [.int .i64 q.at_, .int .i64 q.len, .string q.text] := by
  obtain ⟨xs, n, _, _, hcl, hl, hf⟩ := DataW.trod_struct Try.underlying31 h
  rw [cells31] at hcl
  match xs, hl, cs, hcl with
  | [y0, y1, y2], _, [x, y, z], _ =>
    have t0 := hf 0 _ rfl
    have t1 := hf 1 _ rfl
    have t2 := hf 2 _ rfl
    simp only [cells3, cells9, List.drop_zero, List.drop_succ_cons, List.take_succ_cons, List.take_zero, List.getElem?_cons_zero, List.getElem?_cons_succ] at t0 t1 t2
    obtain ⟨a0, e0, _, _⟩ := DataW.trod_int Try.underlying3 t0
    obtain ⟨a1, e1, _, _⟩ := DataW.trod_int Try.underlying3 t1
    obtain ⟨a2, e2, _, _⟩ := DataW.trod_string Try.underlying9 t2
    have e0' : x = .int .i64 a0 := by simpa [cells3] using e0
    have e1' : y = .int .i64 a1 := by simpa [cells3] using e1
    have e2' : z = .string a2 := by simpa [cells9] using e2
    exact ⟨⟨a0, a1, a2⟩, by rw [e0', e1', e2']⟩
theorem ed_R {σ : Sig} (q : Ed) : R C W (fun b => b < W.heap.size) σ q.av [.int .i64 q.at_, .int .i64 q.len, .string q.text] := by
  have := R.g (C := C) (w := W) (F := fun b => b < W.heap.size) (σ := σ) (fs := [.i .i64 q.at_, .i .i64 q.len, .s q.text]) [[.int .i64 q.at_], [.int .i64 q.len], [.string q.text]] rfl (fun j a c h1 h2 => by
    match j, h1, h2 with
    | 0, h1, h2 => cases h1; cases h2; exact .i
    | 1, h1, h2 => cases h1; cases h2; exact .i
    | 2, h1, h2 => cases h1; cases h2; exact .s)
  exact this
set_option maxRecDepth 100000 in
theorem ac_el {n : Nat} {cs : List Value} {x : DataW H × List MemPlace} (h : DataW.trod enc Try.prog W 0 (fun _ => true) true n 38 cs = some x) : ∃ q : Ac, cs = [.int .i64 q.kind, .int .i64 q.e.at_, .int .i64 q.e.len, .string q.e.text] := by
  obtain ⟨xs, n, _, _, hcl, hl, hf⟩ := DataW.trod_struct Try.underlying38 h
  rw [cells38] at hcl
  match xs, hl, cs, hcl with
  | [y0, y1], _, [k, x, y, z], _ =>
    have t0 := hf 0 _ rfl
    have t1 := hf 1 _ rfl
    simp only [cells3, cells31, List.drop_zero, List.drop_succ_cons, List.take_succ_cons, List.take_zero, List.getElem?_cons_zero, List.getElem?_cons_succ] at t0 t1
    obtain ⟨a0, e0, _, _⟩ := DataW.trod_int Try.underlying3 t0
    obtain ⟨q, hq⟩ := ed_el t1
    have e0' : k = .int .i64 a0 := by simpa [cells3] using e0
    have hq' : [x, y, z] = [.int .i64 q.at_, .int .i64 q.len, .string q.text] := by simpa [cells31] using hq
    exact ⟨⟨a0, q⟩, by rw [e0', hq']⟩
theorem ac_R {σ : Sig} (q : Ac) : R C W (fun b => b < W.heap.size) σ q.av [.int .i64 q.kind, .int .i64 q.e.at_, .int .i64 q.e.len, .string q.e.text] := by
  have := R.g (C := C) (w := W) (F := fun b => b < W.heap.size) (σ := σ) (fs := [.i .i64 q.kind, q.e.av]) [[.int .i64 q.kind], [.int .i64 q.e.at_, .int .i64 q.e.len, .string q.e.text]] rfl (fun j a c h1 h2 => by
    match j, h1, h2 with
    | 0, h1, h2 => cases h1; cases h2; exact .i
    | 1, h1, h2 => cases h1; cases h2; exact ed_R q.e)
  exact this
theorem ed_view (q : Ed) : view C C.P.depth 31 q.av = q.av := by kernel_rfl
theorem ac_view (q : Ac) : view C C.P.depth 38 q.av = q.av := by kernel_rfl
theorem ed_sh (a b : Int) (s : ByteArray) : sh C 8 31 (Ed.av ⟨a, b, s⟩) = true := by kernel_rfl
theorem ac_sh (k a b : Int) (s : ByteArray) : sh C 8 38 (Ac.av ⟨k, ⟨a, b, s⟩⟩) = true := by kernel_rfl
theorem ed_wt (q : Ed) : Wt C 31 q.av := ⟨sh_sound 8 31 _ (ed_sh q.at_ q.len q.text), ed_view q⟩
theorem ac_wt (q : Ac) : Wt C 38 q.av := ⟨sh_sound 8 38 _ (ac_sh q.kind q.e.at_ q.e.len q.e.text), ac_view q⟩
theorem open_edits {a : Option Addr} {len cap : Nat} {d : DataW H} {p : List MemPlace} (h : DataW.Trod enc Try.prog W 0 (fun _ => true) true 22 (.slice a len cap) d p) : ∃ qs : List Ed, VR C W (fun b => b < W.heap.size) noSig (.l 31 (qs.map Ed.av)) (.slice a len cap) :=
  open_rows Ed.av Try.underlying22 (by kernel_rfl) (by rw [c_sz31]; omega) (fun n cs x hx => by
    obtain ⟨q, rfl⟩ := ed_el hx
    exact ⟨q, ed_R q⟩) ed_wt h
theorem open_acts {a : Option Addr} {len cap : Nat} {d : DataW H} {p : List MemPlace} (h : DataW.Trod enc Try.prog W 0 (fun _ => true) true 35 (.slice a len cap) d p) : ∃ qs : List Ac, VR C W (fun b => b < W.heap.size) noSig (.l 38 (qs.map Ac.av)) (.slice a len cap) :=
  open_rows Ac.av Try.underlying35 (by kernel_rfl) (by rw [c_sz38]; omega) (fun n cs x hx => by
    obtain ⟨q, rfl⟩ := ac_el hx
    exact ⟨q, ac_R q⟩) ac_wt h
end
end Go.Proofs.Ytfnepeilccainaa.Den
