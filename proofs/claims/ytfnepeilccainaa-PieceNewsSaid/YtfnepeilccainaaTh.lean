/- Proved here: a part of the evaluator for the model's functions, and that a call does what it says; the parts are told one by one. No condition. -/
import Derived.Test.YtfnepeilccainaaMn
/- Proved here: a text's String and Len, of what the evaluator says. No condition. -/
namespace Go.Proofs.Ytfnepeilccainaa.Den
open Go Go.Proofs
set_option linter.unusedVariables false
set_option linter.unusedSimpArgs false
/-- From some depth on. -/
def Ev {α : Type} (f : Nat → α) (r : α) : Prop := ∃ K, ∀ k, K ≤ k → f k = r
section
variable {α β : Type}
theorem Ev.const (r : α) : Ev (fun _ => r) r := ⟨0, fun _ _ => rfl⟩
theorem Ev.add {f : Nat → α} {r : α} (c : Nat) (h : Ev f r) : Ev (fun k => f (k + c)) r := by
  obtain ⟨K, hK⟩ := h
  exact ⟨K, fun k hk => hK _ (by omega)⟩
theorem Ev.shift {f g : Nat → α} {r : α} {c : Nat} (h : ∀ k, f (k + c) = g k) (hg : Ev g r) : Ev f r := by
  obtain ⟨K, hK⟩ := hg
  refine ⟨K + c, fun k hk => ?_⟩
  obtain ⟨j, rfl⟩ : ∃ j, k = j + c := ⟨k - c, by omega⟩
  rw [h, hK j (by omega)]
theorem Ev.call {n : FuncId} {args : List AV} {o : Out} (c : Nat) (h : Ev (fun k => call C k n args) o) : Ev (fun k => callP C (callF C (k + c)) n args) o := h.add c
theorem Ev.bind {x : Nat → Option α} {f : Nat → α → Option β} {o : α} {r : Option β} (h : Ev x (some o)) (h2 : Ev (fun k => f k o) r) : Ev (fun k => (x k).bind (f k)) r := by
  obtain ⟨K, hK⟩ := h
  obtain ⟨J, hJ⟩ := h2
  refine ⟨K + J, fun k hk => ?_⟩
  show (x k).bind (f k) = r
  rw [hK k (by omega)]
  exact hJ k (by omega)
theorem Ev.pos {p : Prop} [Decidable p] {a b : Nat → α} {r : α} (h : p) (ha : Ev a r) : Ev (fun k => if p then a k else b k) r := by
  simpa only [if_pos h] using ha
theorem Ev.neg {p : Prop} [Decidable p] {a b : Nat → α} {r : α} (h : ¬ p) (ha : Ev b r) : Ev (fun k => if p then a k else b k) r := by
  simpa only [if_neg h] using ha
theorem Ev.of {f : Nat → α} {r : α} (h : ∀ k, f k = r) : Ev f r := ⟨0, fun k _ => h k⟩
end
theorem w64 {x : Int} (h : -9223372036854775808 ≤ x) (h2 : x < 9223372036854775808) : IntKind.wrap .i64 x = x := by
  rw [IntKind.wrap_i64]
  omega
def prt (b : ByteArray) : AV := .g [.s b]
def join : List ByteArray → ByteArray
  | [] => ⟨#[]⟩
  | b :: bs => b ++ join bs
def bs (b : ByteArray) : List AV := b.data.toList.map fun (c : UInt8) => AV.i .u8 (c.toNat : Int)
theorem bs_append (a b : ByteArray) : bs a ++ bs b = bs (a ++ b) := by simp [bs]
theorem bs_length (a : ByteArray) : (bs a).length = a.size := by simp [bs]
theorem bytesOf_bs (a : ByteArray) : bytesOf (bs a) = a := by
  unfold bs
  rw [bytesOf_eq]
theorem bs_isByte (a : ByteArray) : (bs a).all isByte = true := by
  rw [List.all_eq_true]
  intro x hx
  obtain ⟨c, _, rfl⟩ := List.mem_map.mp hx
  have := c.toNat_lt
  simp [isByte]
  omega
theorem app_nil (a : ByteArray) : a ++ (⟨#[]⟩ : ByteArray) = a := ByteArray.append_empty
theorem nil_app (a : ByteArray) : (⟨#[]⟩ : ByteArray) ++ a = a := ByteArray.empty_append
theorem prt_at {ps : List ByteArray} {j : Nat} (h : j < ps.length) : AV.str (AV.fld ((ps.map prt).getD j .u) 0) = ps[j] := by
  simp [List.getD_eq_getElem?_getD, h, prt, AV.fld, AV.str]
theorem drop_at {ps : List ByteArray} {j : Nat} (h : j < ps.length) : ps.drop j = ps[j] :: ps.drop (j + 1) := List.drop_eq_getElem_cons h
theorem l6_ok (x0 : List ByteArray) (x1 : Int) (x2 : ByteArray) (x3 : Int) (x4 x5 : List AV) (hb : x0.length ≤ 16777216) : ∀ (m j : Nat) (acc : ByteArray), j + m = x0.length → acc.size + (join (x0.drop j)).size ≤ 16777216 →
    Ev (fun k => l6 k (x0.map prt) x1 x2 x3 x4 x5 (bs acc) (x0.length : Int) (j : Int)) (some [.s (acc ++ join (x0.drop j)), .g [.l 53 (x0.map prt), .g [.g [], .g [], .i .i64 x1], .s (acc ++ join (x0.drop j)), .g [.g [], .i .u32 1], .l 31 x4, .l 31 x5]]) := by
  intro m
  induction m with
  | zero =>
    intro j acc hj hs
    have hd : x0.drop j = [] := List.drop_eq_nil_of_le (by omega)
    rw [hd] at hs ⊢
    simp only [join, app_nil] at hs ⊢
    refine Ev.shift (fun k => l6_eq k ..) ?_
    refine Ev.neg (by simp; omega) ?_
    refine Ev.pos (decide_eq_true ⟨rfl, by rw [bs_length]; exact Nat.le_trans (Nat.le_add_right _ _) hs, bs_isByte acc⟩) ?_
    rw [bytesOf_bs]
    exact Ev.bind (o := [.i .u32 1]) (Ev.call _ (Ev.shift (fun k => e41 k true) (Ev.const _))) (Ev.const _)
  | succ m ih =>
    intro j acc hj hs
    have hlt : j < x0.length := by omega
    rw [drop_at hlt] at hs ⊢
    simp only [join, ByteArray.size_append] at hs
    refine Ev.shift (fun k => l6_eq k ..) ?_
    refine Ev.pos (by simp; omega) ?_
    refine Ev.pos (by simp; omega) ?_
    have e1 : AV.str (AV.fld ((x0.map prt).getD (Int.toNat (j : Int)) .u) 0) = x0[j] := prt_at hlt
    rw [e1]
    refine Ev.pos ⟨?_, rfl⟩ ?_
    · show (bs acc).length + (bs x0[j]).length ≤ 16777216
      rw [bs_length, bs_length]
      omega
    have e2 : IntKind.wrap .i64 ((j : Int) + (1 : Int)) = ((j + 1 : Nat) : Int) := by rw [w64 (by omega) (by omega)]; omega
    have e3 : (bs acc ++ (x0[j].data.toList.map fun (c : UInt8) => AV.i .u8 (c.toNat : Int))) = bs (acc ++ x0[j]) := bs_append _ _
    rw [e2, e3]
    have := ih (j + 1) (acc ++ x0[j]) (by omega) (by rw [ByteArray.size_append]; omega)
    simp only [join, ← ByteArray.append_assoc]
    exact this.add 7
theorem l5_ok (x0 : List ByteArray) (x1 : Int) (x2 : ByteArray) (x3 : Int) (x4 x5 : List AV) (hb : x0.length ≤ 16777216) (hs : (join x0).size ≤ 16777216) :
    Ev (fun k => l5 k (x0.map prt) x1 x2 x3 x4 x5 [] (((x0.map prt).length : Nat) : Int) (0 : Int)) (some [.s (join x0), .g [.l 53 (x0.map prt), .g [.g [], .g [], .i .i64 x1], .s (join x0), .g [.g [], .i .u32 1], .l 31 x4, .l 31 x5]]) := by
  rw [List.length_map]
  cases x0 with
  | nil =>
    refine Ev.shift (fun k => l5_eq k ..) ?_
    refine Ev.neg (by simp) ?_
    refine Ev.pos (decide_eq_true ⟨rfl, by simp, rfl⟩) ?_
    exact Ev.bind (o := [.i .u32 1]) (Ev.call _ (Ev.shift (fun k => e41 k true) (Ev.const _))) (Ev.const _)
  | cons b x0 =>
    simp only [join, ByteArray.size_append] at hs
    refine Ev.shift (fun k => l5_eq k ..) ?_
    refine Ev.pos (by simp) ?_
    refine Ev.pos (by simp) ?_
    have e1 : AV.str (AV.fld (((b :: x0).map prt).getD (Int.toNat (0 : Int)) .u) 0) = b := rfl
    rw [e1]
    refine Ev.pos ⟨?_, rfl⟩ ?_
    · show 0 + (bs b).length ≤ 16777216
      rw [bs_length]
      omega
    have e2 : IntKind.wrap .i64 ((0 : Int) + (1 : Int)) = ((1 : Nat) : Int) := by rw [w64 (by omega) (by omega)]; rfl
    have e3 : ([] ++ (b.data.toList.map fun (c : UInt8) => AV.i .u8 (c.toNat : Int))) = bs b := rfl
    rw [e2, e3]
    exact (l6_ok (b :: x0) x1 x2 x3 x4 x5 hb x0.length 1 b (by simp; omega) (by simpa using hs)).add 4
/-- An edit. -/
structure Ed where
  at_ : Int
  len : Int
  text : ByteArray
def Ed.av (e : Ed) : AV := .g [.i .i64 e.at_, .i .i64 e.len, .s e.text]
/-- A text's fields. -/
structure Tx where
  ps : List ByteArray
  sz : Int
  wh : ByteArray
  kn : Int
  un : List Ed
  re : List Ed
def Tx.av (t : Tx) : AV := .g [.l 53 (t.ps.map prt), .g [.g [], .g [], .i .i64 t.sz], .s t.wh, .g [.g [], .i .u32 t.kn], .l 31 (t.un.map Ed.av), .l 31 (t.re.map Ed.av)]
structure Good (t : Tx) (now : ByteArray) : Prop where
  eq : join t.ps = now
  sz : t.sz = (now.size : Int)
  wh : t.kn ≠ 0 → t.wh = now
  small : now.size ≤ 65536
theorem string_ok {t : Tx} {now : ByteArray} (h : Good t now) (hb : t.ps.length ≤ 16777216) : ∃ wh kn, Good { t with wh := wh, kn := kn } now ∧ Ev (fun k => call C k 12 [t.av]) (some [.s now, Tx.av { t with wh := wh, kn := kn }]) := by
  by_cases hk : t.kn = 0
  · refine ⟨now, 1, ⟨h.eq, h.sz, fun _ => rfl, h.small⟩, ?_⟩
    refine Ev.shift (fun k => e12 k (t.ps.map prt) t.sz t.wh t.kn (t.un.map Ed.av) (t.re.map Ed.av)) ?_
    refine Ev.pos (by simp [hk]) ?_
    have := l5_ok t.ps t.sz t.wh t.kn (t.un.map Ed.av) (t.re.map Ed.av) hb (by rw [h.eq]; have := h.small; omega)
    rw [h.eq] at this
    exact this.add 0
  · refine ⟨t.wh, t.kn, h, ?_⟩
    refine Ev.shift (fun k => e12 k (t.ps.map prt) t.sz t.wh t.kn (t.un.map Ed.av) (t.re.map Ed.av)) ?_
    refine Ev.neg (by simp [hk]) ?_
    have := h.wh hk
    rw [← this]
    exact Ev.const _
theorem wakes_ok (k : Nat) : call C (k + 120) 8 [] = some [.b true] := by kernel_rfl
theorem wakes_ev : Ev (fun k => call C k 8 []) (some [.b true]) := Ev.shift wakes_ok (Ev.const _)
def fresh (s : ByteArray) : Tx := { ps := [s], sz := (s.size : Int), wh := ⟨#[]⟩, kn := 0, un := [], re := [] }
theorem fresh_good {s : ByteArray} (h : s.size ≤ 65536) : Good (fresh s) s := ⟨app_nil s, rfl, fun q => absurd rfl q, h⟩
theorem eqb (a : ByteArray) : (ByteArray.toList a == ByteArray.toList a) = true := by simp
theorem news_ok (s : ByteArray) : Ev (fun k => call C k 7 [.s s]) (some [.b true]) := by
  refine Ev.shift (fun k => e7 k s) ?_
  refine Ev.bind (Ev.call 23 wakes_ev) ?_
  refine Ev.pos rfl ?_
  by_cases h1 : s.size ≤ 65536
  · refine Ev.neg (by simp; omega) ?_
    by_cases h2 : s.size ≤ 4000
    · refine Ev.neg (by simp; omega) ?_
      refine Ev.pos (by rw [eqb]; rfl) ?_
      refine Ev.neg (by rw [w64 (by omega) (by omega)]; simp) ?_
      refine Ev.neg (by simp; omega) ?_
      obtain ⟨wh, kn, g, hS⟩ := string_ok (fresh_good h1) (by simp [fresh])
      refine Ev.bind (Ev.call 1 hS) ?_
      refine Ev.pos (eqb s) ?_
      refine Ev.bind (Ev.call 1 (Ev.shift (fun k => e18 k ..) (Ev.const _))) ?_
      have e : ((AV.int (List.headD [AV.i .i64 ((s.size : Nat) : Int)] .u)) == ((ByteArray.size s : Nat) : Int)) = true := by simp [AV.int]
      exact Ev.of fun k => by
        show some [AV.b ((AV.int (List.headD [AV.i .i64 ((s.size : Nat) : Int)] .u)) == ((ByteArray.size s : Nat) : Int))] = _
        rw [e]
    · refine Ev.pos (by simp; omega) ?_
      refine Ev.pos (by rw [eqb]; rfl) ?_
      refine Ev.neg (by rw [w64 (by omega) (by omega)]; simp) ?_
      refine Ev.pos (by simp; omega) ?_
      exact Ev.const _
  · refine Ev.pos (by simp; omega) ?_
    exact Ev.bind (Ev.call 20 wakes_ev) (Ev.const _)
end Go.Proofs.Ytfnepeilccainaa.Den
