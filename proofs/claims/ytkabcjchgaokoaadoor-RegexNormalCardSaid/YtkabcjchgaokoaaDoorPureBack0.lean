/- Proved here: how the text of a rule is read, and what is read is a right rule; the base of the laws of RegexBack and RegexNormal. No condition. -/
import Derived.Test.YtkabcjchgaokoaaDoorGSjx8
import Derived.Test.YtkabcjchgaokoaaDoorGSjx9
import Derived.Test.YtkabcjchgaokoaaDoorGSjx19
import Derived.Test.YtkabcjchgaokoaaDoorGSjx21
import Derived.Test.YtkabcjchgaokoaaDoorGSjx22
import Derived.Test.YtkabcjchgaokoaaDoorGSjx4
import Derived.Laws.Bits64b
import Derived.Laws.Bits64
namespace Go.Proofs.YtkabcjchgaokoaaDoor.Pure
open Go.RowKit Go.Proofs.YtkabcjchgaokoaaDoor.PSj Go.Proofs.YtkabcjchgaokoaaDoorW.PrintWords Go.Proofs.YtkabcjchgaokoaaDoorW.PrintLast
set_option linter.unusedVariables false
set_option linter.unusedSimpArgs false

/-! #### how many bits -/
def val : List Nat → Nat
  | [] => 0
  | b :: l => b + 256 * val l
def cnt (x : Nat) : Nat → Nat
  | 0 => 0
  | n + 1 => x % 2 + cnt (x / 2) n
theorem and_split (a x m n : Nat) (ha : a < 256) (hm : m < 256) : (a + 256 * x) &&& (m + 256 * n) = (a &&& m) + 256 * (x &&& n) := by
  have hlt : a &&& m < 2 ^ 8 := Nat.and_lt_two_pow _ hm
  apply Nat.eq_of_testBit_eq
  intro i
  rw [show a + 256 * x = 2 ^ 8 * x + a by omega, show m + 256 * n = 2 ^ 8 * n + m by omega, show (a &&& m) + 256 * (x &&& n) = 2 ^ 8 * (x &&& n) + (a &&& m) by omega, Nat.testBit_and, Nat.testBit_two_pow_mul_add _ ha, Nat.testBit_two_pow_mul_add _ hm, Nat.testBit_two_pow_mul_add _ hlt]
  split
  · rw [Nat.testBit_and]
  · rw [Nat.testBit_and]
theorem val_and (m : Nat) (hm : m < 256) : ∀ l : List Nat, (∀ b ∈ l, b < 256) → val l &&& val (l.map fun _ => m) = val (l.map fun b => b &&& m)
  | [], _ => by simp [val]
  | b :: l, h => by
    simp only [List.map_cons, val]
    rw [and_split _ _ _ _ (h b List.mem_cons_self) hm, val_and m hm l (fun c hc => h c (List.mem_cons_of_mem _ hc))]
theorem half_mask : ∀ b : Fin 256, ∀ c : Fin 2, (b.val / 2 + 128 * c.val) &&& 85 = (b.val / 2) &&& 85 := by decide +kernel
theorem quar_mask : ∀ b : Fin 256, ∀ c : Fin 4, (b.val / 4 + 64 * c.val) &&& 51 = (b.val / 4) &&& 51 := by decide +kernel
theorem val_half : ∀ l : List Nat, (∀ b ∈ l, b < 256) → (val l / 2) &&& val (l.map fun _ => 85) = val (l.map fun b => (b / 2) &&& 85)
  | [], _ => by simp [val]
  | b :: l, h => by
    have hb := h b List.mem_cons_self
    simp only [List.map_cons, val]
    have e : (b + 256 * val l) / 2 = (b / 2 + 128 * (val l % 2)) + 256 * (val l / 2) := by omega
    rw [e, and_split _ _ _ _ (by omega) (by omega), val_half l (fun c hc => h c (List.mem_cons_of_mem _ hc))]
    have := half_mask ⟨b, hb⟩ ⟨val l % 2, by omega⟩
    simp only at this
    rw [this]
theorem val_quar : ∀ l : List Nat, (∀ b ∈ l, b < 256) → (val l / 4) &&& val (l.map fun _ => 51) = val (l.map fun b => (b / 4) &&& 51)
  | [], _ => by simp [val]
  | b :: l, h => by
    have hb := h b List.mem_cons_self
    simp only [List.map_cons, val]
    have e : (b + 256 * val l) / 4 = (b / 4 + 64 * (val l % 4)) + 256 * (val l / 4) := by omega
    rw [e, and_split _ _ _ _ (by omega) (by omega), val_quar l (fun c hc => h c (List.mem_cons_of_mem _ hc))]
    have := quar_mask ⟨b, hb⟩ ⟨val l % 4, by omega⟩
    simp only at this
    rw [this]
theorem nib_mask : ∀ b : Fin 69, ∀ c : Fin 16, c.val ≤ 4 → (b.val / 16 + 16 * c.val + b.val) &&& 15 = (b.val / 16 + b.val) % 16 := by decide +kernel
theorem val_add (f g : Nat → Nat) : ∀ l : List Nat, val (l.map f) + val (l.map g) = val (l.map fun b => f b + g b)
  | [] => rfl
  | b :: l => by
    simp only [List.map_cons, val]
    have := val_add f g l
    omega
theorem val_nib : ∀ l : List Nat, (∀ b ∈ l, b < 69 ∧ b % 16 ≤ 4) → ((val l / 16) + val l) &&& val (l.map fun _ => 15) = val (l.map fun b => (b / 16 + b) % 16)
  | [], _ => by simp [val]
  | b :: l, h => by
    have hb := h b List.mem_cons_self
    have hv : val l % 16 ≤ 4 := by
      cases l with
      | nil => simp [val]
      | cons c l => have := (h c (List.mem_cons_of_mem _ List.mem_cons_self)).2; simp only [val]; omega
    simp only [List.map_cons, val]
    have e : (b + 256 * val l) / 16 + (b + 256 * val l) = (b / 16 + 16 * (val l % 16) + b) + 256 * (val l / 16 + val l) := by omega
    rw [e, and_split _ _ _ _ (by omega) (by omega), val_nib l (fun c hc => h c (List.mem_cons_of_mem _ hc))]
    have := nib_mask ⟨b, hb.1⟩ ⟨val l % 16, by omega⟩ hv
    simp only at this
    rw [this]
/-- A byte's bits, as the first two steps and the third leave them. -/
def s1 (b : Nat) : Nat := ((b / 2) &&& 85) + (b &&& 85)
def s2 (b : Nat) : Nat := ((b / 4) &&& 51) + (b &&& 51)
def s3 (b : Nat) : Nat := (b / 16 + b) % 16
theorem s12 : ∀ b : Fin 256, s1 b.val < 171 ∧ s2 (s1 b.val) < 69 ∧ s2 (s1 b.val) % 16 ≤ 4 ∧ s3 (s2 (s1 b.val)) = cnt b.val 8 ∧ cnt b.val 8 ≤ 8 := by decide +kernel
theorem cnt_add (x : Nat) : ∀ (m n : Nat), cnt x (m + n) = cnt x m + cnt (x / 2 ^ m) n
  | 0, n => by simp [cnt]
  | m + 1, n => by
    rw [show m + 1 + n = (m + n) + 1 by omega]
    simp only [cnt]
    rw [cnt_add (x / 2) m n, Nat.div_div_eq_div_mul, Nat.pow_succ, Nat.mul_comm 2]
    omega
theorem cnt_low (b x : Nat) (hb : b < 256) : cnt (b + 256 * x) 8 = cnt b 8 := by
  simp only [cnt]
  omega
theorem cnt_val : ∀ l : List Nat, (∀ b ∈ l, b < 256) → cnt (val l) (8 * l.length) = (l.map fun b => cnt b 8).sum
  | [], _ => rfl
  | b :: l, h => by
    have hb := h b List.mem_cons_self
    simp only [List.length_cons, List.map_cons, List.sum_cons, val]
    rw [show 8 * (l.length + 1) = 8 + 8 * l.length by omega, cnt_add, cnt_low b _ hb, show (b + 256 * val l) / 2 ^ 8 = val l by omega, cnt_val l (fun c hc => h c (List.mem_cons_of_mem _ hc))]
theorem bytes8 (x : Nat) (hx : x < 18446744073709551616) : ∃ b0 b1 b2 b3 b4 b5 b6 b7 : Nat, (∀ b ∈ [b0, b1, b2, b3, b4, b5, b6, b7], b < 256) ∧ x = val [b0, b1, b2, b3, b4, b5, b6, b7] := by
  refine ⟨x % 256, x / 256 % 256, x / 65536 % 256, x / 16777216 % 256, x / 4294967296 % 256, x / 1099511627776 % 256, x / 281474976710656 % 256, x / 72057594037927936, ?_, ?_⟩
  · intro b hb
    simp only [List.mem_cons, List.not_mem_nil, or_false] at hb
    omega
  · simp only [val]
    omega
/-- bits.OnesCount64's way, over the numbers. -/
def ones (x : Nat) : Nat :=
  let a := ((x / 2) &&& 6148914691236517205) + (x &&& 6148914691236517205)
  let b := ((a / 4) &&& 3689348814741910323) + (a &&& 3689348814741910323)
  let c := ((b / 16) + b) &&& 1085102592571150095
  let d := c + c / 256
  let e := d + d / 65536
  let f := e + e / 4294967296
  f % 128
theorem fold8 (c0 c1 c2 c3 c4 c5 c6 c7 : Nat) (p0 : c0 ≤ 8) (p1 : c1 ≤ 8) (p2 : c2 ≤ 8) (p3 : c3 ≤ 8) (p4 : c4 ≤ 8) (p5 : c5 ≤ 8) (p6 : c6 ≤ 8) (p7 : c7 ≤ 8) (c d e f : Nat) (hc : c = val [c0, c1, c2, c3, c4, c5, c6, c7]) (hd : d = c + c / 256) (he : e = d + d / 65536) (hf : f = e + e / 4294967296) :
    f % 128 = [c0, c1, c2, c3, c4, c5, c6, c7].sum ∧ f < 18446744073709551616 ∧ e < 18446744073709551616 ∧ d < 18446744073709551616 := by
  have h1 : c / 256 = val [c1, c2, c3, c4, c5, c6, c7] := by rw [hc]; simp only [val]; omega
  have h2 : d = val [c0 + c1, c1 + c2, c2 + c3, c3 + c4, c4 + c5, c5 + c6, c6 + c7, c7] := by rw [hd, h1, hc]; simp only [val]; omega
  have h3 : d / 65536 = val [c2 + c3, c3 + c4, c4 + c5, c5 + c6, c6 + c7, c7] := by rw [h2]; simp only [val]; omega
  have h4 : e = val [c0 + c1 + (c2 + c3), c1 + c2 + (c3 + c4), c2 + c3 + (c4 + c5), c3 + c4 + (c5 + c6), c4 + c5 + (c6 + c7), c5 + c6 + c7, c6 + c7, c7] := by rw [he, h3, h2]; simp only [val]; omega
  have h5 : e / 4294967296 = val [c4 + c5 + (c6 + c7), c5 + c6 + c7, c6 + c7, c7] := by rw [h4]; simp only [val]; omega
  have h6 : f = c0 + c1 + (c2 + c3) + (c4 + c5 + (c6 + c7)) + 256 * val [c1 + c2 + (c3 + c4) + (c5 + c6 + c7), c2 + c3 + (c4 + c5) + (c6 + c7), c3 + c4 + (c5 + c6) + c7, c4 + c5 + (c6 + c7), c5 + c6 + c7, c6 + c7, c7] := by rw [hf, h5, h4]; simp only [val]; omega
  refine ⟨?_, ?_, ?_, ?_⟩
  · rw [h6]
    simp only [List.sum_cons, List.sum_nil]
    omega
  · rw [h6]; simp only [val]; omega
  · rw [h4]; simp only [val]; omega
  · rw [h2]; simp only [val]; omega
set_option maxHeartbeats 1000000 in
theorem ones_cnt (x : Nat) (hx : x < 18446744073709551616) : ones x = cnt x 64 := by
  obtain ⟨b0, b1, b2, b3, b4, b5, b6, b7, hb, rfl⟩ := bytes8 x hx
  have hc := cnt_val [b0, b1, b2, b3, b4, b5, b6, b7] hb
  rw [show 8 * [b0, b1, b2, b3, b4, b5, b6, b7].length = 64 from rfl] at hc
  have hs : ∀ b ∈ [b0, b1, b2, b3, b4, b5, b6, b7], s1 b < 171 ∧ s2 (s1 b) < 69 ∧ s2 (s1 b) % 16 ≤ 4 ∧ s3 (s2 (s1 b)) = cnt b 8 ∧ cnt b 8 ≤ 8 := fun b h => s12 ⟨b, hb b h⟩
  have m5 : val ([b0, b1, b2, b3, b4, b5, b6, b7].map fun _ => 85) = 6148914691236517205 := by simp [val]
  have m3 : val (([b0, b1, b2, b3, b4, b5, b6, b7].map s1).map fun _ => 51) = 3689348814741910323 := by simp [val]
  have m1 : val ((([b0, b1, b2, b3, b4, b5, b6, b7].map s1).map s2).map fun _ => 15) = 1085102592571150095 := by simp [val]
  have e1 : ((val [b0, b1, b2, b3, b4, b5, b6, b7] / 2) &&& 6148914691236517205) + (val [b0, b1, b2, b3, b4, b5, b6, b7] &&& 6148914691236517205) = val ([b0, b1, b2, b3, b4, b5, b6, b7].map s1) := by
    rw [← m5, val_half _ hb, val_and 85 (by omega) _ hb, val_add]
    exact congrArg val (List.map_congr_left fun b _ => rfl)
  have hb1 : ∀ b ∈ [b0, b1, b2, b3, b4, b5, b6, b7].map s1, b < 256 := by
    intro b h
    obtain ⟨c, hc, rfl⟩ := List.mem_map.mp h
    have := (hs c hc).1
    omega
  have e2 : ((val ([b0, b1, b2, b3, b4, b5, b6, b7].map s1) / 4) &&& 3689348814741910323) + (val ([b0, b1, b2, b3, b4, b5, b6, b7].map s1) &&& 3689348814741910323) = val (([b0, b1, b2, b3, b4, b5, b6, b7].map s1).map s2) := by
    rw [← m3, val_quar _ hb1, val_and 51 (by omega) _ hb1, val_add]
    exact congrArg val (List.map_congr_left fun b _ => rfl)
  have hb2 : ∀ b ∈ ([b0, b1, b2, b3, b4, b5, b6, b7].map s1).map s2, b < 69 ∧ b % 16 ≤ 4 := by
    intro b h
    obtain ⟨c, hc, rfl⟩ := List.mem_map.mp h
    obtain ⟨d, hd, rfl⟩ := List.mem_map.mp hc
    exact ⟨(hs d hd).2.1, (hs d hd).2.2.1⟩
  have e3 : ((val (([b0, b1, b2, b3, b4, b5, b6, b7].map s1).map s2) / 16) + val (([b0, b1, b2, b3, b4, b5, b6, b7].map s1).map s2)) &&& 1085102592571150095 = val ([b0, b1, b2, b3, b4, b5, b6, b7].map fun b => cnt b 8) := by
    rw [← m1, val_nib _ hb2, List.map_map, List.map_map]
    exact congrArg val (List.map_congr_left fun b h => (hs b h).2.2.2.1)
  unfold ones
  simp only [e1, e2, e3, hc]
  have p0 := (hs b0 (by simp)).2.2.2.2
  have p1 := (hs b1 (by simp)).2.2.2.2
  have p2 := (hs b2 (by simp)).2.2.2.2
  have p3 := (hs b3 (by simp)).2.2.2.2
  have p4 := (hs b4 (by simp)).2.2.2.2
  have p5 := (hs b5 (by simp)).2.2.2.2
  have p6 := (hs b6 (by simp)).2.2.2.2
  have p7 := (hs b7 (by simp)).2.2.2.2
  exact (fold8 _ _ _ _ _ _ _ _ p0 p1 p2 p3 p4 p5 p6 p7 _ _ _ _ rfl rfl rfl rfl).1

/-! #### sets -/
structure Words (x0 x1 x2 x3 : Int) : Prop where
  w0 : u64ok x0
  w1 : u64ok x1
  w2 : u64ok x2
  w3 : u64ok x3
theorem word_ok {x0 x1 x2 x3 : Int} (h : Words x0 x1 x2 x3) (b : Int) : u64ok (word4 x0 x1 x2 x3 b) := by
  unfold word4
  split
  · exact h.w0
  · split
    · exact h.w1
    · split
      · exact h.w2
      · exact h.w3
def hasB (x0 x1 x2 x3 : Int) (b : Nat) : Bool := (word4 x0 x1 x2 x3 (b : Int)).toNat.testBit (b % 64)
theorem has_f {x0 x1 x2 x3 : Int} (h : Words x0 x1 x2 x3) (b : Nat) (hb : b < 256) : bytes_Has.f x0 x1 x2 x3 (b : Int) = some (hasB x0 x1 x2 x3 b) := by
  have hw := word_ok h (b : Int)
  unfold bytes_Has.f hasB
  rw [if_pos ⟨by omega, by omega⟩]
  generalize word4 x0 x1 x2 x3 (b : Int) = x at *
  obtain ⟨n, rfl⟩ := Int.eq_ofNat_of_zero_le hw.1
  have hn : n < 18446744073709551616 := by have := hw.2; omega
  have e1 : ((b : Int) % 64).toNat = b % 64 := by omega
  have e2 : (n : Int) / 2 ^ ((b : Int) % 64).toNat = ((n / 2 ^ (b % 64) : Nat) : Int) := by rw [e1]; simp
  rw [e2, show (1 : Int) = ((1 : Nat) : Int) from rfl, bits_and_u64_nat _ _ (Nat.lt_of_le_of_lt (Nat.div_le_self _ _) hn) (by decide), Nat.and_one_is_mod, Nat.testBit_eq_decide_div_mod_eq, Int.toNat_natCast]
  congr 1
  by_cases c : n / 2 ^ (b % 64) % 2 = 1
  · simp [c]
  · have c0 : n / 2 ^ (b % 64) % 2 = 0 := by omega
    simp [c0]
/-- How many of the first n are members. -/
def cntB (p : Nat → Bool) : Nat → Nat
  | 0 => 0
  | n + 1 => cntB p n + (p n).toNat
theorem cnt_bits (x : Nat) : ∀ n, cnt x n = cntB (fun j => x.testBit j) n
  | 0 => rfl
  | n + 1 => by
    rw [cnt_add x n 1, cnt_bits x n]
    simp only [cnt, cntB, Nat.add_zero]
    congr 1
    rw [Nat.testBit_eq_decide_div_mod_eq]
    by_cases c : x / 2 ^ n % 2 = 1
    · simp [c]
    · have : x / 2 ^ n % 2 = 0 := by omega
      simp [this]
theorem cntB_add (p : Nat → Bool) (m : Nat) : ∀ n, cntB p (m + n) = cntB p m + cntB (fun j => p (m + j)) n
  | 0 => rfl
  | n + 1 => by
    rw [← Nat.add_assoc]
    simp only [cntB]
    rw [cntB_add p m n]
    omega
theorem cntB_congr {p q : Nat → Bool} : ∀ n, (∀ j, j < n → p j = q j) → cntB p n = cntB q n
  | 0, _ => rfl
  | n + 1, h => by
    simp only [cntB]
    rw [cntB_congr n (fun j hj => h j (by omega)), h n (by omega)]
theorem cntB_le (p : Nat → Bool) : ∀ n, cntB p n ≤ n
  | 0 => Nat.le_refl _
  | n + 1 => by
    have := cntB_le p n
    simp only [cntB]
    cases p n <;> simp <;> omega
def cntS (x0 x1 x2 x3 : Int) : Nat := cntB (hasB x0 x1 x2 x3) 256
theorem cntS_words {x0 x1 x2 x3 : Int} : cntS x0 x1 x2 x3 = cnt x0.toNat 64 + cnt x1.toNat 64 + cnt x2.toNat 64 + cnt x3.toNat 64 := by
  unfold cntS
  rw [show 256 = 64 + (64 + (64 + 64)) from rfl, cntB_add, cntB_add, cntB_add, cnt_bits, cnt_bits, cnt_bits, cnt_bits]
  have e0 : cntB (hasB x0 x1 x2 x3) 64 = cntB (fun j => x0.toNat.testBit j) 64 := cntB_congr _ fun j hj => by
    unfold hasB word4
    rw [if_pos (by omega), show j % 64 = j by omega]
  have e1 : cntB (fun j => hasB x0 x1 x2 x3 (64 + j)) 64 = cntB (fun j => x1.toNat.testBit j) 64 := cntB_congr _ fun j hj => by
    unfold hasB word4
    rw [if_neg (by omega), if_pos (by omega), show (64 + j) % 64 = j by omega]
  have e2 : cntB (fun j => hasB x0 x1 x2 x3 (64 + (64 + j))) 64 = cntB (fun j => x2.toNat.testBit j) 64 := cntB_congr _ fun j hj => by
    unfold hasB word4
    rw [if_neg (by omega), if_neg (by omega), if_pos (by omega), show (64 + (64 + j)) % 64 = j by omega]
  have e3 : cntB (fun j => hasB x0 x1 x2 x3 (64 + (64 + (64 + j)))) 64 = cntB (fun j => x3.toNat.testBit j) 64 := cntB_congr _ fun j hj => by
    unfold hasB word4
    rw [if_neg (by omega), if_neg (by omega), if_neg (by omega), show (64 + (64 + (64 + j))) % 64 = j by omega]
  rw [e0, e1, e2, e3]
  omega
theorem bits_and_i64_low (a : Nat) (ha : a < 9223372036854775808) : bits .and .i64 (a : Int) 127 = ((a % 128 : Nat) : Int) := by
  have h1 : (BitVec.ofInt 64 (a : Int)).toNat = a := by
    rw [BitVec.ofInt_natCast, BitVec.toNat_ofNat]; exact Nat.mod_eq_of_lt (by omega)
  have h2 : (BitVec.ofInt 64 (127 : Int)).toNat = 127 := by decide
  show IntKind.i64.wrap ((BitVec.ofInt 64 (a : Int) &&& BitVec.ofInt 64 (127 : Int)).toNat : Int) = _
  rw [BitVec.toNat_and, h1, h2, show (127 : Nat) = 2 ^ 7 - 1 from rfl, Nat.and_two_pow_sub_one_eq_mod]
  rw [IntWalk.i64_in _ (by omega)]
theorem ones_f (n : Nat) (hn : n < 18446744073709551616) : bits_OnesCount64.f (n : Int) = some ((cnt n 64 : Nat) : Int) := by
  rw [← ones_cnt n hn]
  unfold bits_OnesCount64.f ones
  have k1 : ((n : Int) / 2) = ((n / 2 : Nat) : Int) := by omega
  have l1 : (n / 2) &&& 6148914691236517205 ≤ 6148914691236517205 := Nat.and_le_right
  have l2 : n &&& 6148914691236517205 ≤ 6148914691236517205 := Nat.and_le_right
  rw [k1, show (6148914691236517205 : Int) = ((6148914691236517205 : Nat) : Int) from rfl, bits_and_u64_nat _ _ (by omega) (by omega), bits_and_u64_nat _ _ hn (by omega)]
  generalize (n / 2) &&& 6148914691236517205 = A at *
  generalize n &&& 6148914691236517205 = B at *
  rw [show IntKind.u64.wrap ((A : Int) + (B : Int)) = ((A + B : Nat) : Int) by rw [IntKind.wrap_u64]; omega]
  have hC : A + B < 18446744073709551616 := by omega
  simp only
  generalize A + B = C at *
  have k2 : ((C : Int) / 4) = ((C / 4 : Nat) : Int) := by omega
  have l3 : (C / 4) &&& 3689348814741910323 ≤ 3689348814741910323 := Nat.and_le_right
  have l4 : C &&& 3689348814741910323 ≤ 3689348814741910323 := Nat.and_le_right
  rw [k2, show (3689348814741910323 : Int) = ((3689348814741910323 : Nat) : Int) from rfl, bits_and_u64_nat _ _ (by omega) (by omega), bits_and_u64_nat _ _ hC (by omega)]
  generalize (C / 4) &&& 3689348814741910323 = D at *
  generalize C &&& 3689348814741910323 = E at *
  rw [show IntKind.u64.wrap ((D : Int) + (E : Int)) = ((D + E : Nat) : Int) by rw [IntKind.wrap_u64]; omega]
  have hF : D + E ≤ 7378697629483820646 := by omega
  generalize D + E = F at *
  rw [show IntKind.u64.wrap ((F : Int) / 16 + (F : Int)) = ((F / 16 + F : Nat) : Int) by rw [IntKind.wrap_u64]; omega, show (1085102592571150095 : Int) = ((1085102592571150095 : Nat) : Int) from rfl, bits_and_u64_nat _ _ (by omega) (by omega)]
  have l5 : (F / 16 + F) &&& 1085102592571150095 ≤ 1085102592571150095 := Nat.and_le_right
  generalize (F / 16 + F) &&& 1085102592571150095 = G at *
  rw [show IntKind.u64.wrap ((G : Int) + (G : Int) / 256) = ((G + G / 256 : Nat) : Int) by rw [IntKind.wrap_u64]; omega]
  have hH : G + G / 256 ≤ 1090000000000000000 := by omega
  generalize G + G / 256 = H at *
  rw [show IntKind.u64.wrap ((H : Int) + (H : Int) / 65536) = ((H + H / 65536 : Nat) : Int) by rw [IntKind.wrap_u64]; omega]
  have hI : H + H / 65536 ≤ 1091000000000000000 := by omega
  generalize H + H / 65536 = I at *
  rw [show IntKind.u64.wrap ((I : Int) + (I : Int) / 4294967296) = ((I + I / 4294967296 : Nat) : Int) by rw [IntKind.wrap_u64]; omega]
  have hJ : I + I / 4294967296 ≤ 1092000000000000000 := by omega
  generalize I + I / 4294967296 = J at *
  rw [show wrap64 (J : Int) = (J : Int) by unfold wrap64; omega, bits_and_i64_low J (by omega)]
theorem cnt_le (x : Nat) : ∀ n, cnt x n ≤ n := fun n => by rw [cnt_bits]; exact cntB_le _ n
theorem count_f {x0 x1 x2 x3 : Int} (h : Words x0 x1 x2 x3) : bytes_Count.f x0 x1 x2 x3 = some (cntS x0 x1 x2 x3 : Int) := by
  obtain ⟨⟨a0, b0⟩, ⟨a1, b1⟩, ⟨a2, b2⟩, a3, b3⟩ := h
  obtain ⟨n0, rfl⟩ := Int.eq_ofNat_of_zero_le a0
  obtain ⟨n1, rfl⟩ := Int.eq_ofNat_of_zero_le a1
  obtain ⟨n2, rfl⟩ := Int.eq_ofNat_of_zero_le a2
  obtain ⟨n3, rfl⟩ := Int.eq_ofNat_of_zero_le a3
  unfold bytes_Count.f
  rw [ones_f _ (by omega), Option.bind_some, ones_f _ (by omega), Option.bind_some, ones_f _ (by omega), Option.bind_some, ones_f _ (by omega), Option.bind_some, cntS_words]
  simp only [Int.toNat_natCast]
  have l0 := cnt_le n0 64
  have l1 := cnt_le n1 64
  have l2 := cnt_le n2 64
  have l3 := cnt_le n3 64
  have hw : ∀ z : Int, 0 ≤ z → z ≤ 1000 → wrap64 z = z := fun z _ _ => by unfold wrap64; omega
  rw [hw (cnt n0 64 : Int) (by omega) (by omega), hw ((cnt n0 64 : Int) + (cnt n1 64 : Int)) (by omega) (by omega), hw ((cnt n0 64 : Int) + (cnt n1 64 : Int) + (cnt n2 64 : Int)) (by omega) (by omega), hw _ (by omega) (by omega)]
  simp only [Option.some.injEq]
  omega
theorem wr64 (z : Int) (h0 : 0 ≤ z) (h1 : z ≤ 1000000000) : wrap64 z = z := by unfold wrap64; omega
/-- The least member. -/
def leastB (p : Nat → Bool) : Nat → Nat → Int
  | _, 0 => -1
  | b, d + 1 => if p b then (b : Int) else leastB p (b + 1) d
theorem leastB_eq (p : Nat → Bool) : ∀ (d b e : Nat), b ≤ e → e < b + d → p e = true → (∀ j, b ≤ j → j < e → p j = false) → leastB p b d = (e : Int)
  | 0, b, e, h0, h1, _, _ => by omega
  | d + 1, b, e, h0, h1, h2, h3 => by
    simp only [leastB]
    by_cases c : b = e
    · subst c; rw [if_pos h2]
    · rw [if_neg (by rw [h3 b (Nat.le_refl _) (by omega)]; decide)]
      exact leastB_eq p d (b + 1) e (by omega) (by omega) h2 (fun j hj hj2 => h3 j (by omega) hj2)
theorem ctz_bits (n : Nat) (h0 : n ≠ 0) (hn : n < 18446744073709551616) : Lib.ctz 64 n < 64 ∧ n.testBit (Lib.ctz 64 n) = true ∧ ∀ j, j < Lib.ctz 64 n → n.testBit j = false := by
  obtain ⟨m, hm, hk⟩ := Lib.ctzFrom_spec 64 n (by omega) hn
  have e : Lib.ctz 64 n = Lib.ctzFrom 64 n := by simp [Lib.ctz, h0]
  rw [e]
  generalize Lib.ctzFrom 64 n = k at *
  refine ⟨hk, ?_, fun j hj => ?_⟩
  · rw [hm, Nat.testBit_two_pow_mul, Nat.sub_self, Nat.testBit_zero]
    simp
  · rw [hm, Nat.testBit_two_pow_mul]
    simp
    omega
theorem hasB_at {x0 x1 x2 x3 : Int} (j : Nat) : (j < 64 → hasB x0 x1 x2 x3 j = x0.toNat.testBit j) ∧ (j < 64 → hasB x0 x1 x2 x3 (64 + j) = x1.toNat.testBit j) ∧ (j < 64 → hasB x0 x1 x2 x3 (128 + j) = x2.toNat.testBit j) ∧ (j < 64 → hasB x0 x1 x2 x3 (192 + j) = x3.toNat.testBit j) := by
  refine ⟨fun h => ?_, fun h => ?_, fun h => ?_, fun h => ?_⟩
  · unfold hasB word4; rw [if_pos (by omega), show j % 64 = j by omega]
  · unfold hasB word4; rw [if_neg (by omega), if_pos (by omega), show (64 + j) % 64 = j by omega]
  · unfold hasB word4; rw [if_neg (by omega), if_neg (by omega), if_pos (by omega), show (128 + j) % 64 = j by omega]
  · unfold hasB word4; rw [if_neg (by omega), if_neg (by omega), if_neg (by omega), show (192 + j) % 64 = j by omega]
theorem zero_bits (j : Nat) : (0 : Nat).testBit j = false := Nat.zero_testBit j
theorem hasB_zero {x0 x1 x2 x3 : Int} (q : Nat) (h : ∀ j, j < 64 → hasB x0 x1 x2 x3 (q + j) = (0 : Nat).testBit j) (i : Nat) (h0 : q ≤ i) (h1 : i < q + 64) : hasB x0 x1 x2 x3 i = false := by
  have := h (i - q) (by omega)
  rw [show q + (i - q) = i by omega, zero_bits] at this
  exact this
/-- The least, as math/bits tells it. -/
theorem least_f {x0 x1 x2 x3 : Int} (h : Words x0 x1 x2 x3) : bytes_Least.f x0 x1 x2 x3 = some (leastB (hasB x0 x1 x2 x3) 0 256) := by
  have w0 := h.w0
  have w1 := h.w1
  have w2 := h.w2
  have w3 := h.w3
  have H := @hasB_at x0 x1 x2 x3
  have hw : ∀ z : Int, 0 ≤ z → z ≤ 1000 → wrap64 z = z := fun z _ _ => by unfold wrap64; omega
  have tz : ∀ x : Int, u64ok x → bits_TrailingZeros64.f x = some ((Lib.ctz 64 x.toNat : Nat) : Int) := fun x hx => by unfold bits_TrailingZeros64.f; rw [if_pos hx]
  unfold bytes_Least.f
  by_cases c0 : x0 ≠ 0
  · obtain ⟨hk, ht, hf⟩ := ctz_bits x0.toNat (by have := w0.1; omega) (by have := w0.2; have := w0.1; omega)
    rw [if_pos c0, tz _ w0, Option.bind_some, hw _ (by omega) (by omega)]
    rw [leastB_eq _ 256 0 (Lib.ctz 64 x0.toNat) (by omega) (by omega) (by rw [(H _).1 hk]; exact ht) (fun j _ hj => by rw [(H j).1 (by omega)]; exact hf j hj)]
  have e0 : x0 = 0 := by omega
  have z0 : ∀ i, i < 64 → hasB x0 x1 x2 x3 i = false := fun i hi => hasB_zero 0 (fun j hj => by rw [Nat.zero_add, (H j).1 hj, e0]; rfl) i (by omega) (by omega)
  rw [if_neg c0]
  by_cases c1 : x1 ≠ 0
  · obtain ⟨hk, ht, hf⟩ := ctz_bits x1.toNat (by have := w1.1; omega) (by have := w1.2; have := w1.1; omega)
    rw [if_pos c1, tz _ w1, Option.bind_some, hw _ (by omega) (by omega)]
    rw [leastB_eq _ 256 0 (64 + Lib.ctz 64 x1.toNat) (by omega) (by omega) (by rw [(H _).2.1 hk]; exact ht) (fun j _ hj => by
      by_cases q : j < 64
      · exact z0 j q
      · have := (H (j - 64)).2.1 (by omega)
        rw [show 64 + (j - 64) = j by omega] at this
        rw [this]; exact hf _ (by omega))]
    rfl
  have e1 : x1 = 0 := by omega
  have z1 : ∀ i, 64 ≤ i → i < 128 → hasB x0 x1 x2 x3 i = false := fun i hi hj => hasB_zero 64 (fun j hj => by rw [(H j).2.1 hj, e1]; rfl) i hi (by omega)
  rw [if_neg c1]
  by_cases c2 : x2 ≠ 0
  · obtain ⟨hk, ht, hf⟩ := ctz_bits x2.toNat (by have := w2.1; omega) (by have := w2.2; have := w2.1; omega)
    rw [if_pos c2, tz _ w2, Option.bind_some, hw _ (by omega) (by omega)]
    rw [leastB_eq _ 256 0 (128 + Lib.ctz 64 x2.toNat) (by omega) (by omega) (by rw [(H _).2.2.1 hk]; exact ht) (fun j _ hj => by
      by_cases q : j < 64
      · exact z0 j q
      · by_cases q2 : j < 128
        · exact z1 j (by omega) q2
        · have := (H (j - 128)).2.2.1 (by omega)
          rw [show 128 + (j - 128) = j by omega] at this
          rw [this]; exact hf _ (by omega))]
    rfl
  have e2 : x2 = 0 := by omega
  have z2 : ∀ i, 128 ≤ i → i < 192 → hasB x0 x1 x2 x3 i = false := fun i hi hj => hasB_zero 128 (fun j hj => by rw [(H j).2.2.1 hj, e2]; rfl) i hi (by omega)
  rw [if_neg c2]
  by_cases c3 : x3 ≠ 0
  · obtain ⟨hk, ht, hf⟩ := ctz_bits x3.toNat (by have := w3.1; omega) (by have := w3.2; have := w3.1; omega)
    rw [if_pos c3, tz _ w3, Option.bind_some, hw _ (by omega) (by omega)]
    rw [leastB_eq _ 256 0 (192 + Lib.ctz 64 x3.toNat) (by omega) (by omega) (by rw [(H _).2.2.2 hk]; exact ht) (fun j _ hj => by
      by_cases q : j < 64
      · exact z0 j q
      · by_cases q2 : j < 128
        · exact z1 j (by omega) q2
        · by_cases q3 : j < 192
          · exact z2 j (by omega) q3
          · have := (H (j - 192)).2.2.2 (by omega)
            rw [show 192 + (j - 192) = j by omega] at this
            rw [this]; exact hf _ (by omega))]
    rfl
  have e3 : x3 = 0 := by omega
  rw [if_neg c3]
  have all : ∀ i, i < 256 → hasB x0 x1 x2 x3 i = false := fun i hi => by
    by_cases q : i < 64
    · exact z0 i q
    · by_cases q2 : i < 128
      · exact z1 i (by omega) q2
      · by_cases q3 : i < 192
        · exact z2 i (by omega) q3
        · exact hasB_zero 192 (fun j hj => by rw [(H j).2.2.2 hj, e3]; rfl) i (by omega) (by omega)
  have none : ∀ d b, b + d = 256 → leastB (hasB x0 x1 x2 x3) b d = -1 := by
    intro d
    induction d with
    | zero => intro b _; rfl
    | succ d ih => intro b hb; simp only [leastB]; rw [if_neg (by rw [all b (by omega)]; decide)]; exact ih (b + 1) (by omega)
  rw [none 256 0 rfl]
/-! #### a byte as it is told -/
def SPC : ByteArray := ⟨#[46, 42, 43, 63, 40, 41, 91, 93, 124, 92, 47]⟩
def CLS : ByteArray := ⟨#[91, 93, 94, 45, 92, 47]⟩
/-! #### the runs of a set -/
def runL (p : Nat → Bool) : Nat → Nat → Nat
  | _, 0 => 0
  | b, d + 1 => if p b then runL p (b + 1) d + 1 else 0
theorem runL_le (p : Nat → Bool) : ∀ d b, runL p b d ≤ d
  | 0, _ => Nat.le_refl _
  | d + 1, b => by
    simp only [runL]
    split
    · have := runL_le p d (b + 1); omega
    · omega
theorem runL_end (p : Nat → Bool) : ∀ d b, runL p b d < d → p (b + runL p b d) = false
  | 0, _, h => by omega
  | d + 1, b, h => by
    simp only [runL] at h ⊢
    by_cases c : p b = true
    · rw [if_pos c] at h ⊢
      have := runL_end p d (b + 1) (by omega)
      rw [show b + 1 + runL p (b + 1) d = b + (runL p (b + 1) d + 1) by omega] at this
      exact this
    · rw [if_neg c]
      simpa using c
section
variable {x0 x1 x2 x3 : Int} (h : Words x0 x1 x2 x3)
include h
set_option maxRecDepth 100000 in
theorem set_l1 (d : Nat) : ∀ (a b : Nat) (acc : ByteArray) (r : ByteArray), b + 1 + d = 256 → Ev (fun k => regex_set.j2 k acc (a : Int) ((b + runL (hasB x0 x1 x2 x3) (b + 1) d : Nat) : Int) x0 x1 x2 x3) r → Ev (fun k => regex_set.l1 k acc (a : Int) (b : Int) x0 x1 x2 x3) r := by
  induction d with
  | zero =>
    intro a b acc r hb hr
    refine .step (fun k => ?_) hr
    rw [regex_set.l1, if_neg (by omega)]
    rfl
  | succ d ih =>
    intro a b acc r hb hr
    have hh : bytes_Has.f x0 x1 x2 x3 (((b : Int) + 1) % 256) = some (hasB x0 x1 x2 x3 (b + 1)) := by
      have := has_f h (b + 1) (by omega)
      rw [← this]; congr 1; omega
    simp only [runL] at hr
    by_cases c : hasB x0 x1 x2 x3 (b + 1) = true
    · rw [if_pos c] at hr
      have := ih a (b + 1) acc r (by omega) (by rw [show b + 1 + runL (hasB x0 x1 x2 x3) (b + 1 + 1) d = b + (runL (hasB x0 x1 x2 x3) (b + 1 + 1) d + 1) by omega]; exact hr)
      refine .step (fun k => ?_) this
      rw [regex_set.l1, if_pos (by omega), wr64 _ (by omega) (by omega), hh, Option.bind_some, if_pos c]
      rfl
    · rw [if_neg c] at hr
      refine .step (fun k => ?_) hr
      rw [regex_set.l1, if_pos (by omega), wr64 _ (by omega) (by omega), hh, Option.bind_some, if_neg c]
      rfl
end

/-! #### all but the line's end -/
theorem cntB_full (p : Nat → Bool) : ∀ n, cntB p n = n → ∀ j, j < n → p j = true
  | 0, _, j, hj => by omega
  | n + 1, h, j, hj => by
    simp only [cntB] at h
    have hle := cntB_le p n
    have hp : p n = true := by
      cases hq : p n with
      | true => rfl
      | false => rw [hq] at h; simp at h; omega
    rw [hp] at h
    simp at h
    by_cases e : j = n
    · subst e; exact hp
    · exact cntB_full p n h j (by omega)
theorem all_but (p : Nat → Bool) (h : cntB p 256 = 255) (h10 : p 10 = false) : ∀ j, j < 256 → p j = decide (j ≠ 10) := by
  have h2 : cntB (fun j => p j || decide (j = 10)) 256 = 256 := by
    have e1 := cntB_add p 10 246
    have e2 := cntB_add (fun j => p j || decide (j = 10)) 10 246
    have e3 := cntB_add (fun j => p (10 + j)) 1 245
    have e4 := cntB_add (fun j => p (10 + j) || decide (10 + j = 10)) 1 245
    have c1 : cntB (fun j => p j || decide (j = 10)) 10 = cntB p 10 := cntB_congr _ fun j hj => by simp [show j ≠ 10 by omega]
    have c2 : cntB (fun j => p (10 + (1 + j)) || decide (10 + (1 + j) = 10)) 245 = cntB (fun j => p (10 + (1 + j))) 245 := cntB_congr _ fun j hj => by simp [show 10 + (1 + j) ≠ 10 by omega]
    have c3 : cntB (fun j => p (10 + j)) 1 = 0 := by simp [cntB, h10]
    have c4 : cntB (fun j => p (10 + j) || decide (10 + j = 10)) 1 = 1 := by simp [cntB]
    simp only [show (1 + 245 : Nat) = 246 from rfl, show (10 + 246 : Nat) = 256 from rfl] at e1 e2 e3 e4
    omega
  intro j hj
  have := cntB_full _ 256 h2 j hj
  simp only [Bool.or_eq_true, decide_eq_true_eq] at this
  by_cases e : j = 10
  · subst e; rw [h10]; rfl
  · rcases this with hp | hp
    · rw [hp]; simp [e]
    · exact absurd hp e
def N10 : Nat := 18446744073709550591
def NM : Nat := 18446744073709551615
theorem n10_bits : ∀ j : Fin 64, N10.testBit j.val = decide (j.val ≠ 10) := by decide +kernel
theorem nm_bits : ∀ j : Fin 64, NM.testBit j.val = true := by decide +kernel
theorem not_one : (bytes_One.f 10).bind (fun q => bytes_Not.f q.1 q.2.1 q.2.2.1 q.2.2.2) = some ((N10 : Int), (NM : Int), (NM : Int), (NM : Int)) := by decide +kernel
theorem dots_cnt : cntS (N10 : Int) (NM : Int) (NM : Int) (NM : Int) = 255 ∧ hasB (N10 : Int) (NM : Int) (NM : Int) (NM : Int) 10 = false := by decide +kernel
theorem nat_of_bits (x y : Nat) (hx : x < 2 ^ 64) (hy : y < 2 ^ 64) (h : ∀ j, j < 64 → x.testBit j = y.testBit j) : x = y := by
  apply Nat.eq_of_testBit_eq
  intro j
  by_cases hj : j < 64
  · exact h j hj
  · rw [Nat.testBit_lt_two_pow (Nat.lt_of_lt_of_le hx (Nat.pow_le_pow_right (by decide) (by omega))), Nat.testBit_lt_two_pow (Nat.lt_of_lt_of_le hy (Nat.pow_le_pow_right (by decide) (by omega)))]
theorem dots {x0 x1 x2 x3 : Int} (h : Words x0 x1 x2 x3) (hc : cntS x0 x1 x2 x3 = 255) (h10 : hasB x0 x1 x2 x3 10 = false) : x0 = (N10 : Int) ∧ x1 = (NM : Int) ∧ x2 = (NM : Int) ∧ x3 = (NM : Int) := by
  have ab := all_but _ hc h10
  obtain ⟨⟨a0, b0⟩, ⟨a1, b1⟩, ⟨a2, b2⟩, a3, b3⟩ := h
  have H := @hasB_at x0 x1 x2 x3
  refine ⟨?_, ?_, ?_, ?_⟩
  · have := nat_of_bits x0.toNat N10 (by omega) (by decide) (fun j hj => by rw [← (H j).1 hj, ab j (by omega)]; exact (n10_bits ⟨j, hj⟩).symm)
    omega
  · have := nat_of_bits x1.toNat NM (by omega) (by decide) (fun j hj => by rw [← (H j).2.1 hj, ab _ (by omega), nm_bits ⟨j, hj⟩]; simp; omega)
    omega
  · have := nat_of_bits x2.toNat NM (by omega) (by decide) (fun j hj => by rw [← (H j).2.2.1 hj, ab _ (by omega), nm_bits ⟨j, hj⟩]; simp; omega)
    omega
  · have := nat_of_bits x3.toNat NM (by omega) (by decide) (fun j hj => by rw [← (H j).2.2.2 hj, ab _ (by omega), nm_bits ⟨j, hj⟩]; simp; omega)
    omega
theorem leastB_found (p : Nat → Bool) : ∀ (d b : Nat), (∃ j, b ≤ j ∧ j < b + d ∧ p j = true) → ∃ e : Nat, leastB p b d = (e : Int) ∧ e < b + d
  | 0, b, ⟨j, h0, h1, _⟩ => by omega
  | d + 1, b, ⟨j, h0, h1, h2⟩ => by
    simp only [leastB]
    by_cases c : p b = true
    · rw [if_pos c]; exact ⟨b, rfl, by omega⟩
    · rw [if_neg c]
      obtain ⟨e, he, hl⟩ := leastB_found p d (b + 1) ⟨j, by
        by_cases q : b = j
        · subst q; exact absurd h2 c
        · omega, by omega, h2⟩
      exact ⟨e, he, by omega⟩
theorem cntB_pos (p : Nat → Bool) : ∀ n, 0 < cntB p n → ∃ j, j < n ∧ p j = true
  | 0, h => by simp [cntB] at h
  | n + 1, h => by
    cases hq : p n with
    | true => exact ⟨n, by omega, hq⟩
    | false =>
      simp only [cntB, hq, Bool.toNat_false, Nat.add_zero] at h
      obtain ⟨j, hj, hp⟩ := cntB_pos p n h
      exact ⟨j, by omega, hp⟩
/-! #### right rules, and where they begin -/
def wnt (o : Int) : Int := if o = 1 ∨ o = 2 then 0 else if o = 5 ∨ o = 6 ∨ o = 7 then 1 else if o = 3 ∨ o = 4 then 2 else -1
theorem wr {x : Int} (h0 : -9223372036854775808 ≤ x) (h1 : x ≤ 9223372036854775807) : wrap64 x = x := by
  unfold wrap64
  omega
theorem wants_f (o : Int) (k : Nat) : regex_wants.f (k + 3) o = some (wnt o) := by
  simp only [regex_wants.f, regex_wants.j0, regex_wants.j1, wnt]
  by_cases h1 : o = 1
  · simp [h1]
  · by_cases h2 : o = 2
    · simp [h2]
    · by_cases h5 : o = 5
      · simp [h5]
      · by_cases h6 : o = 6
        · simp [h6]
        · by_cases h7 : o = 7
          · simp [h7]
          · by_cases h3 : o = 3
            · simp [h3]
            · by_cases h4 : o = 4
              · simp [h4]
              · simp [h1, h2, h3, h4, h5, h6, h7]
theorem refwants_f (o : Int) (k : Nat) : topiaryref06_Wants.f (k + 3) o = some (wnt o) := by
  simp only [topiaryref06_Wants.f, topiaryref06_Wants.j0, topiaryref06_Wants.j1, wnt]
  by_cases h1 : o = 1
  · simp [h1]
  · by_cases h2 : o = 2
    · simp [h2]
    · by_cases h3 : o = 3
      · simp [h3]
      · by_cases h4 : o = 4
        · simp [h4]
        · by_cases h5 : 5 ≤ o
          · by_cases h7 : o ≤ 7
            · have : o = 5 ∨ o = 6 ∨ o = 7 := by omega
              simp [h1, h2, h3, h4, h5, h7, this]
            · have : ¬ (o = 5 ∨ o = 6 ∨ o = 7) := by omega
              simp [h1, h2, h3, h4, h5, h7, this]
          · have : ¬ (o = 5 ∨ o = 6 ∨ o = 7) := by omega
            simp [h1, h2, h3, h4, h5, this]
theorem wnt_le (o : Int) : -1 ≤ wnt o ∧ wnt o ≤ 2 := by unfold wnt; split <;> (try split) <;> (try split) <;> omega
/-- Is the set empty? -/
def noset (c : S40) : Bool := c.f1.f0 == 0 && (c.f1.f1 == 0 && (c.f1.f2 == 0 && c.f1.f3 == 0))
def rl : List S40 → Int → Bool
  | [], d => d == 1
  | c :: t, d => if wnt c.f0 < 0 then false else if wnt c.f0 > d then false else if noset c == (c.f0 == 1) then false else rl t (d + 1 - wnt c.f0)
theorem rd_mid (pre : List S40) (c : S40) (t : List S40) : rd_T40 (pre ++ c :: t) (pre.length : Int) = c := by
  simp [rd_T40, List.getD]
theorem right_l0 : ∀ (t pre : List S40) (d : Int) (k : Nat), pre.length + t.length ≤ 60 → 0 ≤ d → d ≤ pre.length → t.length + 5 ≤ k →
    regex_Right.l0 k d (pre ++ t) ((pre ++ t).length : Int) (pre.length : Int) = some (rl t d) := by
  intro t
  induction t with
  | nil =>
    intro pre d k h0 h1 h2 h3
    obtain ⟨k, rfl⟩ : ∃ m, k = m + 1 := ⟨k - 1, by omega⟩
    simp only [regex_Right.l0, List.append_nil, rl]
    rw [if_neg (by omega)]
  | cons c t ih =>
    intro pre d k h0 h1 h2 h3
    simp only [List.length_cons] at h0 h3
    obtain ⟨k, rfl⟩ : ∃ m, k = m + 1 := ⟨k - 1, by omega⟩
    obtain ⟨k', rfl⟩ : ∃ m, k = m + 3 := ⟨k - 3, by omega⟩
    have hl : (pre.length : Int) < ((pre ++ c :: t).length : Int) := by simp; omega
    rw [regex_Right.l0]
    rw [if_pos hl, if_pos (by omega), if_pos hl, rd_mid, wants_f, Option.bind_some, rl]
    have hw := wnt_le c.f0
    by_cases e1 : wnt c.f0 < 0
    · rw [if_pos e1, if_pos e1]
    · rw [if_neg e1, if_neg e1]
      by_cases e2 : wnt c.f0 > d
      · rw [if_pos e2, if_pos e2]
      · rw [if_neg e2, if_neg e2]
        have hx : ((c.f0 == 1) != (!(c.f1.f0 == 0) || (!(c.f1.f1 == 0) || (!(c.f1.f2 == 0) || !(c.f1.f3 == 0))))) = (noset c == (c.f0 == 1)) := by
          unfold noset
          generalize (c.f0 == 1) = a
          generalize (c.f1.f0 == 0) = b0
          generalize (c.f1.f1 == 0) = b1
          generalize (c.f1.f2 == 0) = b2
          generalize (c.f1.f3 == 0) = b3
          cases a <;> cases b0 <;> cases b1 <;> cases b2 <;> cases b3 <;> rfl
        rw [hx]
        by_cases e3 : (noset c == (c.f0 == 1)) = true
        · rw [if_pos e3, if_pos e3]
        · rw [if_neg e3, if_neg e3]
          have := ih (pre ++ [c]) (d + 1 - wnt c.f0) (k' + 3) (by simp; omega) (by omega) (by simp; omega) (by omega)
          rw [List.append_assoc, List.singleton_append] at this
          rw [wr (x := 1 - wnt c.f0) (by omega) (by omega), wr (by omega) (by omega), wr (by omega) (by omega), show d + (1 - wnt c.f0) = d + 1 - wnt c.f0 by omega, ← this]
          congr 1
          simp
theorem refright_l0 : ∀ (t pre : List S40) (d : Int) (k : Nat), pre.length + t.length ≤ 60 → 0 ≤ d → d ≤ pre.length → t.length + 5 ≤ k →
    topiaryref06_Right.l0 k (pre ++ t) d (pre.length : Int) = some (rl t d) := by
  intro t
  induction t with
  | nil =>
    intro pre d k h0 h1 h2 h3
    obtain ⟨k, rfl⟩ : ∃ m, k = m + 1 := ⟨k - 1, by omega⟩
    simp only [topiaryref06_Right.l0, List.append_nil, rl]
    rw [if_neg (by omega)]
  | cons c t ih =>
    intro pre d k h0 h1 h2 h3
    simp only [List.length_cons] at h0 h3
    obtain ⟨k, rfl⟩ : ∃ m, k = m + 1 := ⟨k - 1, by omega⟩
    obtain ⟨k', rfl⟩ : ∃ m, k = m + 3 := ⟨k - 3, by omega⟩
    have hl : (pre.length : Int) < ((pre ++ c :: t).length : Int) := by simp; omega
    rw [topiaryref06_Right.l0]
    rw [if_pos hl, if_pos (by omega), rd_mid, refwants_f, Option.bind_some, rl]
    have hw := wnt_le c.f0
    by_cases e1 : wnt c.f0 < 0
    · rw [if_pos e1, if_pos e1]
    · rw [if_neg e1, if_neg e1]
      by_cases e2 : wnt c.f0 > d
      · simp only [gt_iff_lt, show (d < wnt c.f0) = True from eq_true e2, if_true]
      · simp only [gt_iff_lt, show (d < wnt c.f0) = False from eq_false e2, if_false]
        have hx : (((c.f1.f0 == 0) && ((c.f1.f1 == 0) && ((c.f1.f2 == 0) && (c.f1.f3 == 0)))) == (c.f0 == 1)) = (noset c == (c.f0 == 1)) := rfl
        rw [hx]
        by_cases e3 : (noset c == (c.f0 == 1)) = true
        · rw [if_pos e3, if_pos e3]
        · rw [if_neg e3, if_neg e3]
          have := ih (pre ++ [c]) (d + 1 - wnt c.f0) (k' + 3) (by simp; omega) (by omega) (by simp; omega) (by omega)
          rw [List.append_assoc, List.singleton_append] at this
          rw [wr (x := d - wnt c.f0) (by omega) (by omega), wr (by omega) (by omega), wr (by omega) (by omega), show d - wnt c.f0 + 1 = d + 1 - wnt c.f0 by omega, ← this]
          congr 1
          simp
def rightOf (l : List S40) : Bool := if l.length = 0 then false else if 60 < l.length then false else rl l 0
theorem right_f (l : List S40) (k : Nat) : regex_Right.f (k + 100) l = some (rightOf l) := by
  unfold regex_Right.f rightOf
  by_cases h0 : l.length = 0
  · rw [if_pos (by omega), if_pos h0]; simp [regex_Right.j0]
  · rw [if_neg (by omega), if_neg h0]
    by_cases h1 : 60 < l.length
    · rw [if_pos h1]; simp [regex_Right.j0, show ((60 : Int) < (l.length : Int)) by omega]
    · rw [if_neg h1]
      have := right_l0 l [] 0 (k + 99) (by simp; omega) (by omega) (by simp) (by omega)
      simp only [List.nil_append, List.length_nil] at this
      simp [regex_Right.j0, show ¬ ((60 : Int) < (l.length : Int)) by omega]
      exact this
theorem refright_f (l : List S40) (k : Nat) : topiaryref06_Right.f (k + 100) l = some (rightOf l) := by
  unfold topiaryref06_Right.f rightOf
  by_cases h0 : l.length = 0
  · rw [if_pos (by omega), if_pos h0]; simp [topiaryref06_Right.j0]
  · rw [if_neg (by omega), if_neg h0]
    by_cases h1 : 60 < l.length
    · rw [if_pos h1]; simp [topiaryref06_Right.j0, show ((60 : Int) < (l.length : Int)) by omega]
    · rw [if_neg h1]
      have := refright_l0 l [] 0 (k + 99) (by simp; omega) (by omega) (by simp) (by omega)
      simp only [List.nil_append, List.length_nil] at this
      simp [topiaryref06_Right.j0, show ¬ ((60 : Int) < (l.length : Int)) by omega]
      exact this
/-! #### where a rule begins -/
/-! #### how a text's reading lies in a greater text's -/
def BYA : ByteArray := ⟨#[46, 42, 43, 63, 40, 41, 91, 93, 124, 92, 47, 45, 94]⟩
/-- T holds s from n on; behind it T ends, or a ) stands. -/
structure Emb (s T : ByteArray) (n : Int) : Prop where
  n0 : 0 ≤ n
  size : n + (s.size : Int) ≤ (T.size : Int)
  small : (T.size : Int) < 1000
  byte : ∀ i, 0 ≤ i → i < (s.size : Int) → bt T (n + i) = bt s i
  fin : n + (s.size : Int) < (T.size : Int) → bt T (n + (s.size : Int)) = 41
theorem Emb.refl {s : ByteArray} (h : (s.size : Int) < 1000) : Emb s s 0 :=
  ⟨by omega, by omega, h, fun i _ _ => by rw [Int.zero_add], fun h => by omega⟩
theorem nx_in {s T : ByteArray} {n i : Int} (h : Emb s T n) (h0 : 0 ≤ i) (h1 : i < (s.size : Int)) : regex_reader_next.f T (n + i) = some (bt s i) := by
  have a1 := h.n0
  have a2 := h.size
  unfold regex_reader_next.f
  rw [if_neg (by omega), if_pos (by omega), if_pos (by omega), h.byte i h0 h1]
theorem nx_self {s : ByteArray} {i : Int} (h0 : 0 ≤ i) (h1 : i < (s.size : Int)) : regex_reader_next.f s i = some (bt s i) := by
  unfold regex_reader_next.f
  rw [if_neg (by omega), if_pos (by omega), if_pos (by omega)]
theorem nx_end {s : ByteArray} {i : Int} (h : i = (s.size : Int)) : regex_reader_next.f s i = some (-1) := by
  unfold regex_reader_next.f
  rw [if_pos h]
theorem nx_out {s T : ByteArray} {n i : Int} (h : Emb s T n) (hi : i = (s.size : Int)) : ∃ c, (c = -1 ∨ c = 41) ∧ regex_reader_next.f T (n + i) = some c := by
  subst hi
  have a1 := h.n0
  have a2 := h.size
  by_cases e : n + (s.size : Int) = (T.size : Int)
  · exact ⟨-1, .inl rfl, nx_end e⟩
  · refine ⟨41, .inr rfl, ?_⟩
    rw [nx_self (by omega) (by omega), h.fin (by omega)]
theorem ix_lt (c : UInt8) : ∀ l : List UInt8, Lib.indexByte l c < (l.length : Int)
  | [] => by simp [Lib.indexByte]
  | b :: l => by
    have := ix_lt c l
    simp only [Lib.indexByte, List.length_cons]
    split
    · omega
    · split <;> omega
theorem ix3 (x y z : UInt8) (c i : Int) (h : strings_IndexByte.f ⟨#[x, y, z]⟩ c = some i) : i < 3 := by
  unfold strings_IndexByte.f at h
  obtain rfl := Option.some.inj h
  exact ix_lt _ _
theorem ix_some (s : ByteArray) (c : Int) : ∃ i, strings_IndexByte.f s c = some i := ⟨_, rfl⟩
theorem digit_some (c : Int) (h0 : 0 ≤ c) (h1 : c ≤ 255) : ∃ d, regex_digit.f c = some d := by
  unfold regex_digit.f
  rw [if_pos ⟨h0, by omega⟩]
  obtain ⟨i, hi⟩ := ix_some ⟨#[48, 49, 50, 51, 52, 53, 54, 55, 56, 57, 97, 98, 99, 100, 101, 102, 65, 66, 67, 68, 69, 70]⟩ c
  rw [hi, Option.bind_some]
  by_cases h : i > 15
  · rw [if_pos h]; exact ⟨_, rfl⟩
  · rw [if_neg h]; exact ⟨_, rfl⟩
/-- What \\ and a sign behind it come to. -/
theorem esc_spec (e : Int) (h0 : 0 ≤ e) (h1 : e ≤ 255) : (∃ v, 0 ≤ v ∧ v < 256 ∧ ∀ s a, regex_reader_sign.esc s a e BYA = some (.ok (v, a + 2))) ∨ (∀ s a, regex_reader_sign.esc s a e BYA = some (.error a)) := by
  obtain ⟨i, hi⟩ := ix_some ⟨#[110, 116, 114]⟩ e
  obtain ⟨j, hj⟩ := ix_some BYA e
  have h3 := ix3 _ _ _ _ _ hi
  by_cases ci : i ≥ 0
  · refine .inl ⟨bt ⟨#[10, 9, 13]⟩ i, (bt_range _ _).1, by have := (bt_range ⟨#[10, 9, 13]⟩ i).2; omega, fun s a => ?_⟩
    unfold regex_reader_sign.esc
    rw [if_pos (by omega), hi, Option.bind_some, if_pos ci, if_pos h3]
  · by_cases cj : j ≥ 0
    · refine .inl ⟨e, h0, by omega, fun s a => ?_⟩
      unfold regex_reader_sign.esc
      rw [if_pos (by omega), hi, Option.bind_some, if_neg ci, hj, Option.bind_some, if_pos cj]
    · refine .inr fun s a => ?_
      unfold regex_reader_sign.esc
      rw [if_pos (by omega), hi, Option.bind_some, if_neg ci, hj, Option.bind_some, if_neg cj]
theorem esc_x (s : ByteArray) (a : Int) : regex_reader_sign.esc s a 120 BYA = some (.error a) := by
  rcases esc_spec 120 (by omega) (by omega) with ⟨v, _, _, h⟩ | h
  · have hh : regex_reader_sign.esc ⟨#[]⟩ 0 120 BYA = some (.error 0) := by rfl
    rw [h ⟨#[]⟩ 0] at hh
    cases hh
  · exact h s a
theorem esc_neg (s : ByteArray) (a : Int) : regex_reader_sign.esc s a (-1) BYA = some (.error a) := by
  unfold regex_reader_sign.esc
  rw [if_neg (by omega)]
theorem hex_spec (s : ByteArray) (a : Int) (ha : 0 ≤ a) : (regex_reader_sign.hex s a = some none) ∨ (∃ v, 0 ≤ v ∧ v < 256 ∧ a + 3 < (s.size : Int) ∧ ∀ T n, Emb s T n → regex_reader_sign.hex T (n + a) = some (some v)) := by
  by_cases h : a + 3 < (s.size : Int)
  · obtain ⟨d, hd⟩ := digit_some (bt s (a + 2)) (bt_range _ _).1 (bt_range _ _).2
    obtain ⟨d2, hd2⟩ := digit_some (bt s (a + 3)) (bt_range _ _).1 (bt_range _ _).2
    by_cases c1 : d ≥ 0
    · by_cases c2 : d2 ≥ 0
      · refine .inr ⟨(16 * d + d2) % 256, by omega, by omega, h, fun T n e => ?_⟩
        have a1 := e.n0
        have a2 := e.size
        unfold regex_reader_sign.hex
        rw [if_pos (by omega), show n + a + 2 = n + (a + 2) by omega, show n + a + 3 = n + (a + 3) by omega, e.byte _ (by omega) (by omega), e.byte _ (by omega) (by omega), hd, Option.bind_some, if_pos c1, hd2, Option.bind_some, if_pos c2]
      · left
        unfold regex_reader_sign.hex
        rw [if_pos h, hd, Option.bind_some, if_pos c1, hd2, Option.bind_some, if_neg c2]
    · left
      unfold regex_reader_sign.hex
      rw [if_pos h, hd, Option.bind_some, if_neg c1]
  · left
    unfold regex_reader_sign.hex
    rw [if_neg h]
theorem sign_spec (s : ByteArray) (a : Int) (nt : ByteArray) (hs : (s.size : Int) < 1000) (h0 : 0 ≤ a) (h1 : a ≤ (s.size : Int)) :
    (∃ v a', a < a' ∧ a' ≤ (s.size : Int) ∧ 0 ≤ v ∧ v < 256 ∧ ∀ T n, Emb s T n → regex_reader_sign.f T (n + a) nt BYA = some (.ok (v, n + a'))) ∨ (∃ e, regex_reader_sign.f s a nt BYA = some (.error e)) := by
  by_cases ha : a = (s.size : Int)
  · refine .inr ⟨a, ?_⟩
    unfold regex_reader_sign.f
    rw [if_pos (by omega), nx_end ha, Option.bind_some, if_pos (by omega)]
  · have ha : a < (s.size : Int) := by omega
    have hb := bt_range s a
    by_cases c1 : bt s a < 32
    · refine .inr ⟨a, ?_⟩
      unfold regex_reader_sign.f
      rw [if_pos (by omega), nx_self h0 ha, Option.bind_some, if_pos c1]
    by_cases c2 : bt s a > 126
    · refine .inr ⟨a, ?_⟩
      unfold regex_reader_sign.f
      rw [if_pos (by omega), nx_self h0 ha, Option.bind_some, if_neg c1, if_pos c2]
    by_cases c3 : bt s a ≠ 92
    · obtain ⟨i, hi⟩ := ix_some nt (bt s a)
      by_cases ci : i ≥ 0
      · refine .inr ⟨a, ?_⟩
        unfold regex_reader_sign.f
        rw [if_pos (by omega), nx_self h0 ha, Option.bind_some, if_neg c1, if_neg c2, if_pos c3, hi, Option.bind_some, if_pos ci]
      · refine .inl ⟨bt s a, a + 1, by omega, by omega, hb.1, by omega, fun T n e => ?_⟩
        have a3 := e.small
        unfold regex_reader_sign.f
        rw [if_pos (by omega), nx_in e h0 ha, Option.bind_some, if_neg c1, if_neg c2, if_pos c3, hi, Option.bind_some, if_neg ci, Int.add_assoc]
    · by_cases ha1 : a + 1 = (s.size : Int)
      · refine .inr ⟨a, ?_⟩
        unfold regex_reader_sign.f
        rw [if_pos (by omega), nx_self h0 ha, Option.bind_some, if_neg c1, if_neg c2, if_neg c3, nx_end ha1, Option.bind_some, if_neg (by omega), esc_neg]
      · have ha1 : a + 1 < (s.size : Int) := by omega
        have hb1 := bt_range s (a + 1)
        by_cases c4 : bt s (a + 1) = 120
        · rcases hex_spec s a h0 with hx | ⟨v, v0, v1, v2, hx⟩
          · refine .inr ⟨a, ?_⟩
            unfold regex_reader_sign.f
            rw [if_pos (by omega), nx_self h0 ha, Option.bind_some, if_neg c1, if_neg c2, if_neg c3, nx_self (by omega) ha1, Option.bind_some, if_pos c4, hx, Option.bind_some, c4]
            exact esc_x s a
          · refine .inl ⟨v, a + 4, by omega, by omega, v0, v1, fun T n e => ?_⟩
            have a3 := e.small
            unfold regex_reader_sign.f
            rw [if_pos (by omega), nx_in e h0 ha, Option.bind_some, if_neg c1, if_neg c2, if_neg c3, show n + a + 1 = n + (a + 1) by omega, nx_in e (by omega) ha1, Option.bind_some, if_pos c4, hx T n e, Option.bind_some]
            simp only
            rw [Int.add_assoc]
        · rcases esc_spec (bt s (a + 1)) hb1.1 hb1.2 with ⟨v, v0, v1, hx⟩ | hx
          · refine .inl ⟨v, a + 2, by omega, by omega, v0, v1, fun T n e => ?_⟩
            have a3 := e.small
            unfold regex_reader_sign.f
            rw [if_pos (by omega), nx_in e h0 ha, Option.bind_some, if_neg c1, if_neg c2, if_neg c3, show n + a + 1 = n + (a + 1) by omega, nx_in e (by omega) ha1, Option.bind_some, if_neg c4, hx, Int.add_assoc]
          · refine .inr ⟨a, ?_⟩
            unfold regex_reader_sign.f
            rw [if_pos (by omega), nx_self h0 ha, Option.bind_some, if_neg c1, if_neg c2, if_neg c3, nx_self (by omega) ha1, Option.bind_some, if_neg c4, hx]
/-! #### steps that may throw, from some number of rounds on -/
theorem Ev.ex_ok {α β : Type} {g : Nat → Option (Except Int α)} {f : Nat → α → Option (Except Int β)} {q : α} {r : Except Int β} (h : Ev g (.ok q)) (hf : Ev (fun k => f k q) r) : Ev (fun k => Ex (g k) (f k)) r := by
  obtain ⟨K, h⟩ := h
  obtain ⟨L, hf⟩ := hf
  refine ⟨K + L, fun k hk => ?_⟩
  have h1 := h k (by omega)
  have h2 := hf k (by omega)
  simp only [Ex, h1, Option.bind_some]
  exact h2
theorem Ev.ex_err {α β : Type} {g : Nat → Option (Except Int α)} {f : Nat → α → Option (Except Int β)} {e : Int} (h : Ev g (.error e)) : Ev (fun k => Ex (g k) (f k)) (.error e) := by
  obtain ⟨K, h⟩ := h
  refine ⟨K, fun k hk => ?_⟩
  have h1 := h k hk
  simp only [Ex, h1, Option.bind_some]
theorem Ev.const {α : Type} {o : Option α} {r : α} (h : o = some r) : Ev (fun _ => o) r := ⟨0, fun _ _ => h⟩
theorem Ev.uniq {α : Type} {g : Nat → Option α} {r r' : α} (h : Ev g r) (h' : Ev g r') : r = r' := by
  obtain ⟨K, h⟩ := h
  obtain ⟨L, h'⟩ := h'
  exact Option.some.inj ((h (K + L) (by omega)).symm.trans (h' (K + L) (by omega)))
theorem span_ev (d : Nat) : ∀ (b e x0 x1 x2 x3 : Int), 0 ≤ b → e < 256 → (e + 1 - b) ≤ (d : Int) → ∃ r, Ev (fun k => bytes_Span.l0 k x0 x1 x2 x3 b e) r := by
  induction d with
  | zero =>
    intro b e x0 x1 x2 x3 h0 h1 h2
    refine ⟨(x0, x1, x2, x3), .step (f := fun _ => some (x0, x1, x2, x3)) (fun k => ?_) (.now _)⟩
    rw [bytes_Span.l0, if_neg (by omega)]
  | succ d ih =>
    intro b e x0 x1 x2 x3 h0 h1 h2
    by_cases h : b ≤ e
    · obtain ⟨r, hr⟩ := ih (b + 1) e (bits .or .u64 x0 (bytes_One.word b 0)) (bits .or .u64 x1 (bytes_One.word b 1)) (bits .or .u64 x2 (bytes_One.word b 2)) (bits .or .u64 x3 (bytes_One.word b 3)) (by omega) h1 (by omega)
      refine ⟨r, .step (fun k => ?_) hr⟩
      rw [bytes_Span.l0, if_pos h, bytes_One.f, if_pos ⟨h0, by omega⟩]
      rfl
    · refine ⟨(x0, x1, x2, x3), .step (f := fun _ => some (x0, x1, x2, x3)) (fun k => ?_) (.now _)⟩
      rw [bytes_Span.l0, if_neg h]
theorem span_f (a b : Int) (h0 : 0 ≤ a) (h1 : a < 256) (h2 : 0 ≤ b) (h3 : b < 256) : ∃ r, Ev (fun k => bytes_Span.f k a b) r := by
  obtain ⟨r, hr⟩ := span_ev 256 a b 0 0 0 0 h0 h3 (by omega)
  refine ⟨r, .congr (fun k => ?_) hr⟩
  rw [bytes_Span.f, if_pos ⟨h0, h1, h2, h3⟩]
/-! #### words -/
theorem wrap_ok (z : Int) : u64ok (IntKind.u64.wrap z) := by
  rw [IntKind.wrap_u64]
  exact ⟨by omega, by omega⟩
theorem or_ok (x y : Int) : u64ok (bits .or .u64 x y) := wrap_ok _
theorem xor_ok (x y : Int) : u64ok (bits .xor .u64 x y) := wrap_ok _
theorem words0 : Words 0 0 0 0 := by constructor <;> (unfold u64ok; omega)
theorem words_or {x0 x1 x2 x3 y0 y1 y2 y3 : Int} : Words (bits .or .u64 x0 y0) (bits .or .u64 x1 y1) (bits .or .u64 x2 y2) (bits .or .u64 x3 y3) := ⟨or_ok _ _, or_ok _ _, or_ok _ _, or_ok _ _⟩
theorem words_xor {x0 x1 x2 x3 y0 y1 y2 y3 : Int} : Words (bits .xor .u64 x0 y0) (bits .xor .u64 x1 y1) (bits .xor .u64 x2 y2) (bits .xor .u64 x3 y3) := ⟨xor_ok _ _, xor_ok _ _, xor_ok _ _, xor_ok _ _⟩
abbrev WordsQ (y : Int × Int × Int × Int) : Prop := Words y.1 y.2.1 y.2.2.1 y.2.2.2
/-! #### a class -/
set_option maxRecDepth 100000 in
theorem class_l0 (s : ByteArray) (hs : (s.size : Int) < 1000) (d : Nat) : ∀ (a x0 x1 x2 x3 : Int) (first : Bool), Words x0 x1 x2 x3 → 0 ≤ a → a ≤ (s.size : Int) → (s.size : Int) - a ≤ d →
    (∃ y a', a ≤ a' ∧ a' < (s.size : Int) ∧ WordsQ y ∧ ∀ T n, Emb s T n → Ev (fun k => regex_reader_class.l0 k T x0 x1 x2 x3 first (n + a)) (.ok (y, n + a'))) ∨ (∃ e, Ev (fun k => regex_reader_class.l0 k s x0 x1 x2 x3 first a) (.error e)) := by
  induction d with
  | zero =>
    intro a x0 x1 x2 x3 first hx h0 h1 h2
    refine .inr ⟨a, .step (f := fun _ => some (.error a)) (fun k => ?_) (.now _)⟩
    rw [regex_reader_class.l0, nx_end (by omega), Option.bind_some, if_neg (fun h => by omega), if_pos (by omega)]
  | succ d ih =>
    intro a x0 x1 x2 x3 first hx h0 h1 h2
    by_cases ha : a = (s.size : Int)
    · refine .inr ⟨a, .step (f := fun _ => some (.error a)) (fun k => ?_) (.now _)⟩
      rw [regex_reader_class.l0, nx_end ha, Option.bind_some, if_neg (fun h => by omega), if_pos (by omega)]
    have ha : a < (s.size : Int) := by omega
    have hb := bt_range s a
    by_cases c1 : first = false ∧ bt s a = 93
    · refine .inl ⟨(x0, x1, x2, x3), a, by omega, ha, hx, fun T n e => .step (f := fun _ => some (.ok ((x0, x1, x2, x3), n + a))) (fun k => ?_) (.now _)⟩
      rw [regex_reader_class.l0, nx_in e h0 ha, Option.bind_some, if_pos c1]
    -- the first byte
    rcases (sign_spec s a ⟨#[91, 93, 94, 45, 47]⟩ hs h0 h1).symm with ⟨e, he⟩ | ⟨v, a1, l1, l2, v0, v1, hv⟩
    · refine .inr ⟨e, .step (f := fun _ => some (.error e)) (fun k => ?_) (.now _)⟩
      rw [regex_reader_class.l0, nx_self h0 ha, Option.bind_some, if_neg c1, if_neg (by omega)]
      have he' : regex_reader_sign.f s a ⟨#[91, 93, 94, 45, 47]⟩ ⟨#[46, 42, 43, 63, 40, 41, 91, 93, 124, 92, 47, 45, 94]⟩ = some (.error e) := he
      simp only [he', Ex, Option.bind_some]
    -- how it goes on behind the first byte, in any text
    have open1 : ∀ T n, Emb s T n → ∀ c2, regex_reader_next.f T (n + a1) = some c2 → ∀ k, regex_reader_class.l0 (k + 1) T x0 x1 x2 x3 first (n + a) =
        Ex (if c2 = 45 then regex_reader_sign.f T (n + a1 + 1) ⟨#[91, 93, 94, 45, 47]⟩ BYA else some (.ok (v, n + a1))) fun q2 =>
          if v > q2.1 then some (.error (n + a)) else ((bytes_Span.f k v q2.1).bind fun o => (bytes_Or.f x0 x1 x2 x3 o.1 o.2.1 o.2.2.1 o.2.2.2).bind fun r => regex_reader_class.l0 k T r.1 r.2.1 r.2.2.1 r.2.2.2 false q2.2) := by
      intro T n e c2 hc2 k
      have hv' : regex_reader_sign.f T (n + a) ⟨#[91, 93, 94, 45, 47]⟩ ⟨#[46, 42, 43, 63, 40, 41, 91, 93, 124, 92, 47, 45, 94]⟩ = some (.ok (v, n + a1)) := hv T n e
      rw [regex_reader_class.l0, nx_in e h0 ha, Option.bind_some, if_neg c1, if_neg (by omega), hv']
      simp only [Ex, Option.bind_some, hc2]
      rfl
    -- behind the second
    have goon : ∀ v2 a2, a < a2 → a2 ≤ (s.size : Int) → 0 ≤ v2 → v2 < 256 → ∀ c2 : Int → Int → Prop, (∀ T n, Emb s T n → ∀ k, regex_reader_class.l0 (k + 1) T x0 x1 x2 x3 first (n + a) =
          if v > v2 then some (.error (n + a)) else ((bytes_Span.f k v v2).bind fun o => (bytes_Or.f x0 x1 x2 x3 o.1 o.2.1 o.2.2.1 o.2.2.2).bind fun r => regex_reader_class.l0 k T r.1 r.2.1 r.2.2.1 r.2.2.2 false (n + a2))) →
        (∃ y a', a ≤ a' ∧ a' < (s.size : Int) ∧ WordsQ y ∧ ∀ T n, Emb s T n → Ev (fun k => regex_reader_class.l0 k T x0 x1 x2 x3 first (n + a)) (.ok (y, n + a'))) ∨ (∃ e, Ev (fun k => regex_reader_class.l0 k s x0 x1 x2 x3 first a) (.error e)) := by
      intro v2 a2 l3 l4 w0 w1 _ hgo
      by_cases c5 : v > v2
      · refine .inr ⟨0 + a, .step (f := fun _ => some (.error (0 + a))) (fun k => ?_) (.now _)⟩
        have := hgo s 0 (Emb.refl hs) k
        rw [if_pos c5, Int.zero_add] at this
        rw [this, Int.zero_add]
      · obtain ⟨o, ho⟩ := span_f v v2 v0 v1 w0 w1
        rcases ih a2 (bits .or .u64 x0 o.1) (bits .or .u64 x1 o.2.1) (bits .or .u64 x2 o.2.2.1) (bits .or .u64 x3 o.2.2.2) false words_or (by omega) l4 (by omega) with ⟨y, a', m1, m2, m3, hy⟩ | ⟨e, he⟩
        · refine .inl ⟨y, a', by omega, m2, m3, fun T n e => .step (fun k => hgo T n e k) ?_⟩
          refine Ev.congr (fun k => if_neg c5) (Ev.bind ho ?_)
          exact hy T n e
        · refine .inr ⟨e, .step (f := fun k => if v > v2 then some (.error (0 + a)) else ((bytes_Span.f k v v2).bind fun o => (bytes_Or.f x0 x1 x2 x3 o.1 o.2.1 o.2.2.1 o.2.2.2).bind fun r => regex_reader_class.l0 k s r.1 r.2.1 r.2.2.1 r.2.2.2 false (0 + a2))) (fun k => ?_) ?_⟩
          · have := hgo s 0 (Emb.refl hs) k
            rw [Int.zero_add] at this
            simp only [Int.zero_add] at this ⊢
            exact this
          · refine Ev.congr (fun k => if_neg c5) (Ev.bind ho ?_)
            rw [Int.zero_add]
            exact he
    by_cases c3 : a1 < (s.size : Int) ∧ bt s a1 = 45
    · rcases sign_spec s (a1 + 1) ⟨#[91, 93, 94, 45, 47]⟩ hs (by omega) (by omega) with ⟨v2, a2, m1, m2, w0, w1, hv2⟩ | ⟨e, he⟩
      · refine goon v2 a2 (by omega) m2 w0 w1 (fun _ _ => True) (fun T n e k => ?_)
        rw [open1 T n e 45 (by rw [nx_in e (by omega) c3.1, c3.2]) k, if_pos rfl, show n + a1 + 1 = n + (a1 + 1) by omega, hv2 T n e]
        rfl
      · refine .inr ⟨e, .step (f := fun _ => some (.error e)) (fun k => ?_) (.now _)⟩
        have := open1 s 0 (Emb.refl hs) 45 (by rw [nx_in (Emb.refl hs) (by omega) c3.1, c3.2]) k
        rw [if_pos rfl, Int.zero_add, Int.zero_add, he] at this
        rw [this]
        rfl
    · refine goon v a1 l1 l2 v0 v1 (fun _ _ => True) (fun T n e k => ?_)
      obtain ⟨c2, hc2, hne⟩ : ∃ c2, regex_reader_next.f T (n + a1) = some c2 ∧ c2 ≠ 45 := by
        by_cases hl : a1 < (s.size : Int)
        · exact ⟨_, nx_in e (by omega) hl, fun h => c3 ⟨hl, h⟩⟩
        · obtain ⟨c, hc, h⟩ := nx_out e (i := a1) (by omega)
          exact ⟨c, h, by omega⟩
      rw [open1 T n e c2 hc2 k, if_neg hne]
      rfl
set_option maxRecDepth 100000 in
theorem class_spec (s : ByteArray) (hs : (s.size : Int) < 1000) (a : Int) (h0 : 0 ≤ a) (h1 : a < (s.size : Int)) :
    (∃ y a', a < a' ∧ a' ≤ (s.size : Int) ∧ WordsQ y ∧ ¬ (y.1 = 0 ∧ y.2.1 = 0 ∧ y.2.2.1 = 0 ∧ y.2.2.2 = 0) ∧ ∀ T n, Emb s T n → Ev (fun k => regex_reader_class.f k T (n + a)) (.ok (y, n + a'))) ∨ (∃ e, Ev (fun k => regex_reader_class.f k s a) (.error e)) := by
  by_cases ha : a + 1 = (s.size : Int)
  · refine .inr ⟨a + 1, .congr (f := fun k => Ex (regex_reader_class.l0 k s 0 0 0 0 true (a + 1)) fun x => regex_reader_class.fin a false x) (fun k => ?_) (Ev.ex_err ?_)⟩
    · unfold regex_reader_class.f
      rw [if_pos (by omega), nx_end ha, Option.bind_some, if_neg (by omega), decide_eq_false (by omega)]
    · rcases class_l0 s hs 0 (a + 1) 0 0 0 0 true words0 (by omega) (by omega) (by omega) with ⟨_, a', m1, m2, _⟩ | ⟨e, he⟩
      · omega
      · refine .step (f := fun _ => some (.error (a + 1))) (fun k => ?_) (.now _)
        rw [regex_reader_class.l0, nx_end ha, Option.bind_some, if_neg (fun h => by omega), if_pos (by omega)]
  have ha : a + 1 < (s.size : Int) := by omega
  have key : ∀ (st : Int) (nt : Bool), a < st → st ≤ (s.size : Int) → (∀ T n, Emb s T n → ∀ k, regex_reader_class.f k T (n + a) = Ex (regex_reader_class.l0 k T 0 0 0 0 true (n + st)) fun x => regex_reader_class.fin (n + a) nt x) →
      (∃ y a', a < a' ∧ a' ≤ (s.size : Int) ∧ WordsQ y ∧ ¬ (y.1 = 0 ∧ y.2.1 = 0 ∧ y.2.2.1 = 0 ∧ y.2.2.2 = 0) ∧ ∀ T n, Emb s T n → Ev (fun k => regex_reader_class.f k T (n + a)) (.ok (y, n + a'))) ∨ (∃ e, Ev (fun k => regex_reader_class.f k s a) (.error e)) := by
    intro st nt l1 l2 hgo
    have hgo0 : ∀ k, regex_reader_class.f k s a = Ex (regex_reader_class.l0 k s 0 0 0 0 true st) fun x => regex_reader_class.fin a nt x := by
      intro k
      have := hgo s 0 (Emb.refl hs) k
      simp only [Int.zero_add] at this
      exact this
    rcases class_l0 s hs (s.size) st 0 0 0 0 true words0 (by omega) l2 (by omega) with ⟨y, a', m1, m2, m3, hy⟩ | ⟨e, he⟩
    · -- what the end makes of it
      obtain ⟨z, hz, hzw⟩ : ∃ z, (if nt = true then bytes_Not.f y.1 y.2.1 y.2.2.1 y.2.2.2 else some y) = some z ∧ WordsQ z := by
        cases nt
        · exact ⟨y, by rw [if_neg (by decide)], m3⟩
        · exact ⟨_, by rw [if_pos rfl]; rfl, words_xor⟩
      by_cases c : z.1 = 0 ∧ z.2.1 = 0 ∧ z.2.2.1 = 0 ∧ z.2.2.2 = 0
      · refine .inr ⟨a, .congr hgo0 ?_⟩
        have := hy s 0 (Emb.refl hs)
        simp only [Int.zero_add] at this
        refine Ev.ex_ok this (Ev.const ?_)
        show (if nt = true then bytes_Not.f y.1 y.2.1 y.2.2.1 y.2.2.2 else some y).bind _ = _
        rw [hz, Option.bind_some, if_pos c]
      · refine .inl ⟨z, a' + 1, by omega, by omega, hzw, c, fun T n e => .congr (hgo T n e) (Ev.ex_ok (hy T n e) (Ev.const ?_))⟩
        show (if nt = true then bytes_Not.f y.1 y.2.1 y.2.2.1 y.2.2.2 else some y).bind _ = _
        rw [hz, Option.bind_some, if_neg c, Int.add_assoc]
    · exact .inr ⟨e, .congr hgo0 (Ev.ex_err he)⟩
  by_cases c : bt s (a + 1) = 94
  · refine key (a + 2) true (by omega) (by omega) (fun T n e k => ?_)
    have a3 := e.small
    unfold regex_reader_class.f
    rw [if_pos (by omega), show n + a + 1 = n + (a + 1) by omega, nx_in e (by omega) ha, Option.bind_some, if_pos c, show n + a + 2 = n + (a + 2) by omega, decide_eq_true c]
  · refine key (a + 1) false (by omega) (by omega) (fun T n e k => ?_)
    have a3 := e.small
    unfold regex_reader_class.f
    rw [if_pos (by omega), show n + a + 1 = n + (a + 1) by omega, nx_in e (by omega) ha, Option.bind_some, if_neg c, decide_eq_false c]

/-! #### a reader's step -/
abbrev RF := Nat → ByteArray → Int → List S40 → Option (Except Int (Int × List S40))
/-- What is put makes so much more of operands. -/
structure Dep (lo : Int) (d : List S40) : Prop where
  go : ∀ t (m : Int), 1 - lo ≤ m → rl (d ++ t) m = rl t (m + lo)
  words : ∀ c ∈ d, Words c.f1.f0 c.f1.f1 c.f1.f2 c.f1.f3
theorem Dep.nil : Dep 0 [] := ⟨fun t m _ => by rw [List.nil_append, Int.add_zero], fun c hc => by cases hc⟩
theorem Dep.app {d e : List S40} (hd : Dep 1 d) (he : Dep 0 e) : Dep 1 (d ++ e) :=
  ⟨fun t m hm => by rw [List.append_assoc, hd.go _ m (by omega), he.go t (m + 1) (by omega), Int.add_zero], fun c hc => by
    rcases List.mem_append.mp hc with h | h
    · exact hd.words c h
    · exact he.words c h⟩
theorem Dep.cell {d e : List S40} {op : Int} (ho : op = 3 ∨ op = 4) (hd : Dep 1 d) (he : Dep 0 e) : Dep 0 (d ++ (⟨op, ⟨0, 0, 0, 0⟩⟩ : S40) :: e) :=
  ⟨fun t m hm => by
    have h2 : wnt op = 2 := by rcases ho with rfl | rfl <;> decide
    have hb : (op == 1) = false := by rcases ho with rfl | rfl <;> decide
    rw [List.append_assoc, hd.go _ m (by omega), List.cons_append, rl, h2, if_neg (by decide), if_neg (by omega), hb, if_neg (by simp [noset]), he.go t _ (by omega)]
    congr 1; omega, fun c hc => by
    rcases List.mem_append.mp hc with h | h
    · exact hd.words c h
    · rcases List.mem_cons.mp h with rfl | h
      · exact words0
      · exact he.words c h⟩
theorem Dep.star {e : List S40} {op : Int} (ho : op = 5 ∨ op = 6 ∨ op = 7) (he : Dep 0 e) : Dep 0 ((⟨op, ⟨0, 0, 0, 0⟩⟩ : S40) :: e) :=
  ⟨fun t m hm => by
    have h2 : wnt op = 1 := by rcases ho with rfl | rfl | rfl <;> decide
    have hb : (op == 1) = false := by rcases ho with rfl | rfl | rfl <;> decide
    rw [List.cons_append, rl, h2, if_neg (by decide), if_neg (by omega), hb, if_neg (by simp [noset]), he.go t _ (by omega)]
    congr 1; omega, fun c hc => by
    rcases List.mem_cons.mp hc with rfl | h
    · exact words0
    · exact he.words c h⟩
theorem Dep.empty : Dep 1 [(⟨2, ⟨0, 0, 0, 0⟩⟩ : S40)] :=
  ⟨fun t m hm => by
    rw [List.singleton_append, rl, show wnt 2 = 0 by decide, if_neg (by decide), if_neg (by omega), if_neg (by simp [noset])]
    congr 1; omega, fun c hc => by
    obtain rfl := List.mem_singleton.mp hc
    exact words0⟩
theorem Dep.set {x : Int × Int × Int × Int} (hw : WordsQ x) (hx : ¬ (x.1 = 0 ∧ x.2.1 = 0 ∧ x.2.2.1 = 0 ∧ x.2.2.2 = 0)) : Dep 1 [(⟨1, ⟨x.1, x.2.1, x.2.2.1, x.2.2.2⟩⟩ : S40)] :=
  ⟨fun t m hm => by
    have hn : noset (⟨1, ⟨x.1, x.2.1, x.2.2.1, x.2.2.2⟩⟩ : S40) = false := by
      cases h : noset (⟨1, ⟨x.1, x.2.1, x.2.2.1, x.2.2.2⟩⟩ : S40) with
      | false => rfl
      | true =>
        simp only [noset, Bool.and_eq_true, beq_iff_eq] at h
        exact absurd h hx
    rw [List.singleton_append, rl, hn, show wnt 1 = 0 by decide, if_neg (by decide), if_neg (by omega), if_neg (by simp)]
    congr 1; omega, fun c hc => by
    obtain rfl := List.mem_singleton.mp hc
    exact hw⟩
def oneOk (b : Int) : Bool := match bytes_One.f b with
  | some x => decide (u64ok x.1) && (decide (u64ok x.2.1) && (decide (u64ok x.2.2.1) && (decide (u64ok x.2.2.2) && !(x.1 == 0 && (x.2.1 == 0 && (x.2.2.1 == 0 && x.2.2.2 == 0))))))
  | none => false
theorem one_all : ∀ b : Fin 256, oneOk (b.val : Int) = true := by decide +kernel
theorem one_words (b : Int) (h : oneOk b = true) : ∃ x, bytes_One.f b = some x ∧ WordsQ x ∧ ¬ (x.1 = 0 ∧ x.2.1 = 0 ∧ x.2.2.1 = 0 ∧ x.2.2.2 = 0) := by
  unfold oneOk at h
  cases e : bytes_One.f b with
  | none => rw [e] at h; cases h
  | some x =>
    rw [e] at h
    simp only [Bool.and_eq_true, decide_eq_true_eq, Bool.not_eq_true', Bool.and_eq_false_iff, beq_eq_false_iff_ne, ne_eq] at h
    exact ⟨x, rfl, ⟨h.1, h.2.1, h.2.2.1, h.2.2.2.1⟩, fun c => by have := h.2.2.2.2; simp only [c, not_true_eq_false, or_self] at this⟩
/-- From a on F reads s to its end or to a place, where it has put d behind what there was, and so in any text that holds s; or it throws. -/
def Spec (F : RF) (lo : Int) (s : ByteArray) (a : Int) : Prop :=
  (∃ a' d, a + lo ≤ a' ∧ a' ≤ (s.size : Int) ∧ ((d : List S40).length : Int) + lo ≤ 3 * (a' - a) ∧ Dep lo d ∧ ∀ T n, Emb s T n → ∀ out : List S40, (out.length : Int) + 3 * ((s.size : Int) - a) ≤ 100000 → Ev (fun k => F k T (n + a) out) (.ok (n + a', out ++ d)))
  ∨ (∃ e, ∀ out : List S40, (out.length : Int) + 3 * ((s.size : Int) - a) ≤ 100000 → Ev (fun k => F k s a out) (.error e))
theorem put_f (out : List S40) (op x0 x1 x2 x3 : Int) (h : (out.length : Int) ≤ 100000) : regex_reader_put.f out op x0 x1 x2 x3 = some (out ++ [(⟨op, ⟨x0, x1, x2, x3⟩⟩ : S40)]) := by
  unfold regex_reader_put.f
  rw [if_pos (by omega)]
theorem Ev.one {α : Type} {g : Nat → Option α} {r : α} (h : ∀ k, g (k + 1) = some r) : Ev g r := .step (f := fun _ => some r) h (.now _)
/-- One behind the other. -/
theorem spec_seq {F G H : RF} {s : ByteArray} {a : Int} (hs : (s.size : Int) < 1000) (hF : ∀ k T p out, F (k + 1) T p out = Ex (G k T p out) fun r => H k T r.1 r.2) (h1 : Spec G 1 s a)
    (h2 : ∀ a', a < a' → a' ≤ (s.size : Int) → Spec H 0 s a') : Spec F 1 s a := by
  rcases h1 with ⟨a1, d1, l1, l2, l3, l4, hG⟩ | ⟨e, he⟩
  · rcases h2 a1 (by omega) l2 with ⟨a2, d2, m1, m2, m3, m4, hH⟩ | ⟨e, he⟩
    · refine .inl ⟨a2, d1 ++ d2, by omega, m2, by rw [List.length_append]; omega, l4.app m4, fun T n em out ho => .step (fun k => hF k T (n + a) out) (Ev.ex_ok (hG T n em out ho) ?_)⟩
      have := hH T n em (out ++ d1) (by rw [List.length_append]; omega)
      rw [List.append_assoc] at this
      exact this
    · refine .inr ⟨e, fun out ho => .step (fun k => hF k s a out) (Ev.ex_ok (q := (a1, out ++ d1)) ?_ (he (out ++ d1) (by rw [List.length_append]; omega)))⟩
      have := hG s 0 (Emb.refl hs) out ho
      simp only [Int.zero_add] at this
      exact this
  · exact .inr ⟨e, fun out ho => .step (fun k => hF k s a out) (Ev.ex_err (he out ho))⟩
/-- One, a cell, and what is behind it. -/
theorem spec_cell {G H : RF} {s : ByteArray} {a op : Int} (hop : op = 3 ∨ op = 4) (hs : (s.size : Int) < 1000) (h1 : Spec G 1 s a) (h2 : ∀ a', a < a' → a' ≤ (s.size : Int) → Spec H 0 s a') :
    Spec (fun k T p out => Ex (G k T p out) fun r => (regex_reader_put.f r.2 op 0 0 0 0).bind fun o => H k T r.1 o) 0 s a := by
  rcases h1 with ⟨a1, d1, l1, l2, l3, l4, hG⟩ | ⟨e, he⟩
  · rcases h2 a1 (by omega) l2 with ⟨a2, d2, m1, m2, m3, m4, hH⟩ | ⟨e, he⟩
    · refine .inl ⟨a2, d1 ++ (⟨op, ⟨0, 0, 0, 0⟩⟩ : S40) :: d2, by omega, m2, by simp only [List.length_append, List.length_cons]; omega, .cell hop l4 m4, fun T n em out ho => Ev.ex_ok (hG T n em out ho) ?_⟩
      have := hH T n em (out ++ d1 ++ [(⟨op, ⟨0, 0, 0, 0⟩⟩ : S40)]) (by simp only [List.length_append, List.length_singleton]; omega)
      refine .congr (fun k => ?_) (by simpa using this)
      show (regex_reader_put.f (out ++ d1) op 0 0 0 0).bind _ = _
      rw [put_f _ _ _ _ _ _ (by rw [List.length_append]; omega), Option.bind_some, List.append_assoc]
    · refine .inr ⟨e, fun out ho => Ev.ex_ok (q := (a1, out ++ d1)) ?_ ?_⟩
      · have := hG s 0 (Emb.refl hs) out ho
        simp only [Int.zero_add] at this
        exact this
      · refine .congr (fun k => ?_) (he (out ++ d1 ++ [(⟨op, ⟨0, 0, 0, 0⟩⟩ : S40)]) (by simp only [List.length_append, List.length_singleton]; omega))
        show (regex_reader_put.f (out ++ d1) op 0 0 0 0).bind _ = _
        rw [put_f _ _ _ _ _ _ (by rw [List.length_append]; omega), Option.bind_some]
  · exact .inr ⟨e, fun out ho => Ev.ex_err (he out ho)⟩
/-- It stops where it stands. -/
theorem spec_stop {F : RF} {s : ByteArray} {a : Int} (h0 : 0 ≤ a) (ha : a ≤ (s.size : Int)) (hF : ∀ T n, Emb s T n → ∀ k out, F (k + 1) T (n + a) out = some (.ok (n + a, out))) : Spec F 0 s a :=
  .inl ⟨a, [], by omega, ha, by simp, .nil, fun T n em out _ => .step (f := fun _ => some (.ok (n + a, out ++ []))) (fun k => by rw [List.append_nil]; exact hF T n em k out) (.now _)⟩
theorem spec_err {F : RF} {lo : Int} {s : ByteArray} {a e : Int} (hF : ∀ k out, F (k + 1) s a out = some (.error e)) : Spec F lo s a :=
  .inr ⟨e, fun out _ => .step (f := fun _ => some (.error e)) (fun k => hF k out) (.now _)⟩
theorem ix_stop (c : Int) (h : c = -1 ∨ c = 41) : strings_IndexByte.f ⟨#[42, 43, 63]⟩ (if c < 0 then 0 else c) = some (-1) := by
  rcases h with rfl | rfl <;> decide +kernel
theorem piece_l0 (s : ByteArray) (hs : (s.size : Int) < 1000) (d : Nat) : ∀ a, 0 ≤ a → a ≤ (s.size : Int) → (s.size : Int) - a ≤ d → Spec regex_reader_piece.l0 0 s a := by
  induction d with
  | zero =>
    intro a h0 h1 h2
    refine spec_stop h0 h1 (fun T n em k out => ?_)
    obtain ⟨c, hc, hx⟩ := nx_out em (i := a) (by omega)
    rw [regex_reader_piece.l0, hx, Option.bind_some, ix_stop c hc, Option.bind_some, if_pos (by omega)]
  | succ d ih =>
    intro a h0 h1 h2
    by_cases ha : a = (s.size : Int)
    · refine spec_stop h0 h1 (fun T n em k out => ?_)
      obtain ⟨c, hc, hx⟩ := nx_out em (i := a) ha
      rw [regex_reader_piece.l0, hx, Option.bind_some, ix_stop c hc, Option.bind_some, if_pos (by omega)]
    have ha : a < (s.size : Int) := by omega
    have hb := bt_range s a
    obtain ⟨i, hi⟩ := ix_some ⟨#[42, 43, 63]⟩ (if bt s a < 0 then 0 else bt s a)
    have i3 : i < 3 := by
      rw [if_neg (by omega)] at hi
      exact ix3 _ _ _ _ _ hi
    by_cases c : i < 0
    · refine spec_stop h0 h1 (fun T n em k out => ?_)
      rw [regex_reader_piece.l0, nx_in em h0 ha, Option.bind_some, hi, Option.bind_some, if_pos c]
    · rcases ih (a + 1) (by omega) (by omega) (by omega) with ⟨a2, d2, m1, m2, m3, m4, hH⟩ | ⟨e, he⟩
      · refine .inl ⟨a2, (⟨i + 5, ⟨0, 0, 0, 0⟩⟩ : S40) :: d2, by omega, m2, by simp only [List.length_cons]; omega, .star (by omega) m4, fun T n em out ho => ?_⟩
        have := hH T n em (out ++ [(⟨i + 5, ⟨0, 0, 0, 0⟩⟩ : S40)]) (by simp only [List.length_append, List.length_singleton]; omega)
        rw [List.append_assoc, List.singleton_append] at this
        refine .step (fun k => ?_) this
        rw [regex_reader_piece.l0, nx_in em h0 ha, Option.bind_some, hi, Option.bind_some, if_neg c, if_pos i3, put_f _ _ _ _ _ _ (by omega), Option.bind_some, Int.add_assoc]
      · refine .inr ⟨e, fun out ho => .step (fun k => ?_) (he (out ++ [(⟨i + 5, ⟨0, 0, 0, 0⟩⟩ : S40)]) (by simp only [List.length_append, List.length_singleton]; omega))⟩
        rw [regex_reader_piece.l0, nx_self h0 ha, Option.bind_some, hi, Option.bind_some, if_neg c, if_pos i3, put_f _ _ _ _ _ _ (by omega), Option.bind_some]
/-- A cell of a set. -/
theorem spec_set {s : ByteArray} {a a1 : Int} {x : Int × Int × Int × Int} (l1 : a < a1) (l2 : a1 ≤ (s.size : Int)) (hw : WordsQ x) (hx : ¬ (x.1 = 0 ∧ x.2.1 = 0 ∧ x.2.2.1 = 0 ∧ x.2.2.2 = 0)) (F : RF)
    (hF : ∀ T n, Emb s T n → ∀ out, Ev (fun k => F k T (n + a) out) (.ok (n + a1, out ++ [(⟨1, ⟨x.1, x.2.1, x.2.2.1, x.2.2.2⟩⟩ : S40)])) ∨ 100000 < (out.length : Int)) : Spec F 1 s a := by
  refine .inl ⟨a1, [(⟨1, ⟨x.1, x.2.1, x.2.2.1, x.2.2.2⟩⟩ : S40)], by omega, l2, by simp only [List.length_singleton]; omega, .set hw hx, fun T n em out ho => ?_⟩
  rcases hF T n em out with h | h
  · exact h
  · exfalso; omega
theorem one_f (b : Int) (h0 : 0 ≤ b) (h1 : b < 256) : ∃ x, bytes_One.f b = some x ∧ WordsQ x ∧ ¬ (x.1 = 0 ∧ x.2.1 = 0 ∧ x.2.2.1 = 0 ∧ x.2.2.2 = 0) := by
  have := one_all ⟨b.toNat, by omega⟩
  rw [show (((⟨b.toNat, by omega⟩ : Fin 256).val : Nat) : Int) = b by show ((b.toNat : Nat) : Int) = b; omega] at this
  exact one_words b this
theorem must_f (T : ByteArray) (p : Int) (c : Int) (hp : p < 1000) (h : regex_reader_next.f T p = some c) : regex_reader_must.f T p 41 = some (if c = 41 then .ok (p + 1) else .error p) := by
  unfold regex_reader_must.f
  rw [if_pos ⟨by omega, by omega, by omega⟩, h, Option.bind_some]
  by_cases e : c = 41
  · rw [if_pos e, if_pos e]
  · rw [if_neg e, if_neg e]
set_option maxRecDepth 100000 in
theorem atom_spec (s : ByteArray) (hs : (s.size : Int) < 1000) (a : Int) (h0 : 0 ≤ a) (h1 : a ≤ (s.size : Int)) (hr : a < (s.size : Int) → Spec regex_reader_rows.f 1 s (a + 1)) : Spec regex_reader_atom.f 1 s a := by
  have sgn : ∀ e, regex_reader_sign.f s a ⟨#[46, 42, 43, 63, 40, 41, 91, 93, 124, 92, 47]⟩ BYA = some (.error e) → ∀ c, regex_reader_next.f s a = some c → c ≠ 40 → c ≠ 46 → c ≠ 91 → Spec regex_reader_atom.f 1 s a := by
    intro e he c hc c1 c2 c3
    refine spec_err (e := e) (fun k out => ?_)
    have he' : regex_reader_sign.f s a ⟨#[46, 42, 43, 63, 40, 41, 91, 93, 124, 92, 47]⟩ ⟨#[46, 42, 43, 63, 40, 41, 91, 93, 124, 92, 47, 45, 94]⟩ = some (.error e) := he
    rw [regex_reader_atom.f, hc, Option.bind_some, if_neg c1, if_neg c2, if_neg c3, he']
    rfl
  by_cases ha : a = (s.size : Int)
  · rcases sign_spec s a ⟨#[46, 42, 43, 63, 40, 41, 91, 93, 124, 92, 47]⟩ hs h0 h1 with ⟨v, a1, l1, l2, _⟩ | ⟨e, he⟩
    · omega
    · exact sgn e he (-1) (nx_end ha) (by omega) (by omega) (by omega)
  have ha : a < (s.size : Int) := by omega
  have hb := bt_range s a
  by_cases c1 : bt s a = 40
  · -- a group
    by_cases g : a + 1 < (s.size : Int) ∧ bt s (a + 1) = 41
    · refine .inl ⟨a + 2, [(⟨2, ⟨0, 0, 0, 0⟩⟩ : S40)], by omega, by omega, by simp only [List.length_singleton]; omega, .empty, fun T n em out ho => ?_⟩
      have a2 := em.size
      have a3 := em.small
      refine .step (f := fun _ => some (.ok (n + (a + 2), out ++ [(⟨2, ⟨0, 0, 0, 0⟩⟩ : S40)]))) (fun k => ?_) (.now _)
      rw [regex_reader_atom.f, nx_in em h0 ha, Option.bind_some, if_pos c1, show n + a + 1 = n + (a + 1) by omega, nx_in em (by omega) g.1, Option.bind_some, if_pos g.2, put_f _ _ _ _ _ _ (by omega)]
      have hm := must_f T (n + (a + 1)) _ (by omega) (nx_in em (by omega) g.1)
      rw [if_pos g.2] at hm
      simp only [Ex, Option.bind_some, hm]
      rw [show n + (a + 1) + 1 = n + (a + 2) by omega]
    · rcases hr ha with ⟨a1, d1, l1, l2, l3, l4, hG⟩ | ⟨e, he⟩
      · have go : ∀ T n, Emb s T n → ∀ k out, regex_reader_atom.f (k + 1) T (n + a) out = Ex (regex_reader_rows.f k T (n + (a + 1)) out) fun r => Ex (regex_reader_must.f T r.1 41) fun a2 => some (.ok (a2, r.2)) := by
          intro T n em k out
          have g1 : a + 1 < (s.size : Int) := by omega
          rw [regex_reader_atom.f, nx_in em h0 ha, Option.bind_some, if_pos c1, show n + a + 1 = n + (a + 1) by omega, nx_in em (by omega) g1, Option.bind_some, if_neg (fun h => g ⟨g1, h⟩)]
        by_cases m : a1 < (s.size : Int) ∧ bt s a1 = 41
        · refine .inl ⟨a1 + 1, d1, by omega, by omega, by omega, l4, fun T n em out ho => .step (fun k => go T n em k out) (Ev.ex_ok (hG T n em out (by omega)) (Ev.const ?_))⟩
          have a2 := em.size
          have a3 := em.small
          have hm := must_f T (n + a1) _ (by omega) (nx_in em (by omega) m.1)
          rw [if_pos m.2] at hm
          simp only [Ex, hm, Option.bind_some]
          rw [Int.add_assoc]
        · obtain ⟨c, hc, hne⟩ : ∃ c, regex_reader_next.f s a1 = some c ∧ c ≠ 41 := by
            by_cases hl : a1 < (s.size : Int)
            · exact ⟨_, nx_self (by omega) hl, fun h => m ⟨hl, h⟩⟩
            · exact ⟨-1, nx_end (by omega), by omega⟩
          refine .inr ⟨a1, fun out ho => .step (fun k => ?_) (Ev.ex_ok (q := (a1, out ++ d1)) (g := fun k => regex_reader_rows.f k s (a + 1) out) (f := fun k r => Ex (regex_reader_must.f s r.1 41) fun a2 => some (.ok (a2, r.2))) ?_ (Ev.const ?_))⟩
          · have := go s 0 (Emb.refl hs) k out
            simp only [Int.zero_add] at this
            exact this
          · have := hG s 0 (Emb.refl hs) out (by omega)
            simp only [Int.zero_add] at this
            exact this
          · have hm := must_f s a1 _ (by omega) hc
            rw [if_neg hne] at hm
            simp only [Ex, hm, Option.bind_some]
      · refine .inr ⟨e, fun out ho => .step (fun k => ?_) (Ev.ex_err (g := fun k => regex_reader_rows.f k s (a + 1) out) (f := fun k r => Ex (regex_reader_must.f s r.1 41) fun a2 => some (.ok (a2, r.2))) (he out (by omega)))⟩
        obtain ⟨c, hc, hne⟩ : ∃ c, regex_reader_next.f s (a + 1) = some c ∧ c ≠ 41 := by
          by_cases hl : a + 1 < (s.size : Int)
          · exact ⟨_, nx_self (by omega) hl, fun h => g ⟨hl, h⟩⟩
          · exact ⟨-1, nx_end (by omega), by omega⟩
        rw [regex_reader_atom.f, nx_self h0 ha, Option.bind_some, if_pos c1, hc, Option.bind_some, if_neg hne]
  by_cases c2 : bt s a = 46
  · obtain ⟨q, hq, _, _⟩ := one_f 10 (by omega) (by omega)
    refine spec_set (x := (bits .xor .u64 IntKind.u64.max q.1, bits .xor .u64 IntKind.u64.max q.2.1, bits .xor .u64 IntKind.u64.max q.2.2.1, bits .xor .u64 IntKind.u64.max q.2.2.2)) (a1 := a + 1) (by omega) (by omega) words_xor (by have := bytes_One.f 10 |>.isSome; have e := not_one; rw [hq, Option.bind_some] at e; have e := Option.some.inj e; simp only [Prod.mk.injEq] at e; obtain ⟨e0, e1, e2, e3⟩ := e; intro hh; simp only at hh; rw [e0] at hh; exact absurd hh.1 (by decide)) _ (fun T n em out => ?_)
    by_cases hl : (out.length : Int) ≤ 100000
    · refine .inl (Ev.one fun k => ?_)
      rw [regex_reader_atom.f, nx_in em h0 ha, Option.bind_some, if_neg c1, if_pos c2, hq, Option.bind_some, bytes_Not.f, Option.bind_some, put_f _ _ _ _ _ _ hl, Option.bind_some, Int.add_assoc]
    · exact .inr (by omega)
  by_cases c3 : bt s a = 91
  · rcases class_spec s hs a h0 ha with ⟨y, a1, l1, l2, l3, l4, hy⟩ | ⟨e, he⟩
    · refine spec_set (x := y) (a1 := a1) l1 l2 l3 l4 _ (fun T n em out => ?_)
      by_cases hl : (out.length : Int) ≤ 100000
      · refine .inl (.step (fun k => ?_) (Ev.ex_ok (g := fun k => regex_reader_class.f k T (n + a)) (f := fun _ q => (regex_reader_put.f out 1 q.1.1 q.1.2.1 q.1.2.2.1 q.1.2.2.2).bind fun o => some (.ok (q.2, o))) (hy T n em) (Ev.const ?_)))
        · rw [regex_reader_atom.f, nx_in em h0 ha, Option.bind_some, if_neg c1, if_neg c2, if_pos c3]
        · simp only [put_f _ _ _ _ _ _ hl, Option.bind_some]
      · exact .inr (by omega)
    · refine .inr ⟨e, fun out ho => .step (fun k => ?_) (Ev.ex_err (g := fun k => regex_reader_class.f k s a) (f := fun _ q => (regex_reader_put.f out 1 q.1.1 q.1.2.1 q.1.2.2.1 q.1.2.2.2).bind fun o => some (.ok (q.2, o))) he)⟩
      rw [regex_reader_atom.f, nx_self h0 ha, Option.bind_some, if_neg c1, if_neg c2, if_pos c3]
  rcases sign_spec s a ⟨#[46, 42, 43, 63, 40, 41, 91, 93, 124, 92, 47]⟩ hs h0 h1 with ⟨v, a1, l1, l2, v0, v1, hv⟩ | ⟨e, he⟩
  · obtain ⟨q, hq, q1, q2⟩ := one_f v v0 v1
    refine spec_set (x := q) (a1 := a1) l1 l2 q1 q2 _ (fun T n em out => ?_)
    by_cases hl : (out.length : Int) ≤ 100000
    · refine .inl (Ev.one fun k => ?_)
      have hv' : regex_reader_sign.f T (n + a) ⟨#[46, 42, 43, 63, 40, 41, 91, 93, 124, 92, 47]⟩ ⟨#[46, 42, 43, 63, 40, 41, 91, 93, 124, 92, 47, 45, 94]⟩ = some (.ok (v, n + a1)) := hv T n em
      rw [regex_reader_atom.f, nx_in em h0 ha, Option.bind_some, if_neg c1, if_neg c2, if_neg c3, hv']
      simp only [Ex, Option.bind_some, hq, put_f _ _ _ _ _ _ hl]
    · exact .inr (by omega)
  · exact sgn e he _ (nx_self h0 ha) c1 c2 c3
/-- All of them. -/
theorem all_spec (s : ByteArray) (hs : (s.size : Int) < 1000) (d : Nat) : ∀ a, 0 ≤ a → a ≤ (s.size : Int) → (s.size : Int) - a ≤ d →
    Spec regex_reader_atom.f 1 s a ∧ Spec regex_reader_piece.f 1 s a ∧ Spec regex_reader_row.l0 0 s a ∧ Spec regex_reader_row.f 1 s a ∧ Spec regex_reader_rows.l0 0 s a ∧ Spec regex_reader_rows.f 1 s a := by
  induction d using Nat.strongRecOn with
  | _ d ih =>
    intro a h0 h1 h2
    have IH : ∀ a', a < a' → a' ≤ (s.size : Int) → Spec regex_reader_atom.f 1 s a' ∧ Spec regex_reader_piece.f 1 s a' ∧ Spec regex_reader_row.l0 0 s a' ∧ Spec regex_reader_row.f 1 s a' ∧ Spec regex_reader_rows.l0 0 s a' ∧ Spec regex_reader_rows.f 1 s a' := by
      intro a' l1 l2
      exact ih ((s.size : Int) - a').toNat (by omega) a' (by omega) l2 (by omega)
    have A := atom_spec s hs a h0 h1 (fun h => (IH (a + 1) (by omega) (by omega)).2.2.2.2.2)
    have P : Spec regex_reader_piece.f 1 s a := spec_seq hs (fun k T p out => by rw [regex_reader_piece.f]) A (fun a' l1 l2 => piece_l0 s hs s.size a' (by omega) l2 (by omega))
    have RL : Spec regex_reader_row.l0 0 s a := by
      by_cases ha : a = (s.size : Int)
      · refine spec_stop h0 h1 (fun T n em k out => ?_)
        obtain ⟨c, hc, hx⟩ := nx_out em (i := a) ha
        rw [regex_reader_row.l0, hx, Option.bind_some, if_neg (fun h => by omega)]
      have ha : a < (s.size : Int) := by omega
      by_cases c : bt s a ≥ 0 ∧ bt s a ≠ 124 ∧ bt s a ≠ 41
      · rcases spec_cell (op := 3) (.inl rfl) hs P (fun a' l1 l2 => (IH a' l1 l2).2.2.1) with ⟨a1, d1, l1, l2, l3, l4, hG⟩ | ⟨e, he⟩
        · refine .inl ⟨a1, d1, l1, l2, l3, l4, fun T n em out ho => .step (fun k => ?_) (hG T n em out ho)⟩
          rw [regex_reader_row.l0, nx_in em h0 ha, Option.bind_some, if_pos c]
        · refine .inr ⟨e, fun out ho => .step (fun k => ?_) (he out ho)⟩
          rw [regex_reader_row.l0, nx_self h0 ha, Option.bind_some, if_pos c]
      · refine spec_stop h0 h1 (fun T n em k out => ?_)
        rw [regex_reader_row.l0, nx_in em h0 ha, Option.bind_some, if_neg c]
    have R : Spec regex_reader_row.f 1 s a := spec_seq hs (fun k T p out => by rw [regex_reader_row.f]) P (fun a' l1 l2 => (IH a' l1 l2).2.2.1)
    have RSL : Spec regex_reader_rows.l0 0 s a := by
      by_cases ha : a = (s.size : Int)
      · refine spec_stop h0 h1 (fun T n em k out => ?_)
        obtain ⟨c, hc, hx⟩ := nx_out em (i := a) ha
        rw [regex_reader_rows.l0, hx, Option.bind_some, if_neg (fun h => by omega)]
      have ha : a < (s.size : Int) := by omega
      by_cases c : bt s a = 124
      · rcases spec_cell (op := 4) (.inr rfl) hs (IH (a + 1) (by omega) (by omega)).2.2.2.1 (fun a' l1 l2 => (IH a' (by omega) l2).2.2.2.2.1) with ⟨a1, d1, l1, l2, l3, l4, hG⟩ | ⟨e, he⟩
        · refine .inl ⟨a1, d1, by omega, l2, by omega, l4, fun T n em out ho => .step (fun k => ?_) (hG T n em out (by omega))⟩
          rw [regex_reader_rows.l0, nx_in em h0 ha, Option.bind_some, if_pos c, Int.add_assoc]
        · refine .inr ⟨e, fun out ho => .step (fun k => ?_) (he out (by omega))⟩
          rw [regex_reader_rows.l0, nx_self h0 ha, Option.bind_some, if_pos c]
      · refine spec_stop h0 h1 (fun T n em k out => ?_)
        rw [regex_reader_rows.l0, nx_in em h0 ha, Option.bind_some, if_neg c]
    exact ⟨A, P, RL, R, RSL, spec_seq hs (fun k T p out => by rw [regex_reader_rows.f]) R (fun a' l1 l2 => (IH a' l1 l2).2.2.2.2.1)⟩
theorem rows_41 (s : ByteArray) (hs : (s.size : Int) < 1000) (h : 0 < (s.size : Int)) (h1 : bt s 0 = 41) : ∃ e, Ev (fun k => regex_reader_rows.f k s 0 []) (.error e) := by
  refine ⟨0, 10, fun k hk => ?_⟩
  obtain ⟨k, rfl⟩ : ∃ m, k = m + 4 := ⟨k - 4, by omega⟩
  have sg : regex_reader_sign.f s 0 ⟨#[46, 42, 43, 63, 40, 41, 91, 93, 124, 92, 47]⟩ ⟨#[46, 42, 43, 63, 40, 41, 91, 93, 124, 92, 47, 45, 94]⟩ = some (.error 0) := by
    unfold regex_reader_sign.f
    rw [if_pos (by omega), nx_self (by omega) h, h1, Option.bind_some, if_neg (by omega), if_neg (by omega), if_pos (by omega), show strings_IndexByte.f ⟨#[46, 42, 43, 63, 40, 41, 91, 93, 124, 92, 47]⟩ 41 = some 5 by decide +kernel, Option.bind_some, if_pos (by omega)]
  have at_ : regex_reader_atom.f (k + 1) s 0 [] = some (.error 0) := by
    rw [regex_reader_atom.f, nx_self (by omega) h, h1, Option.bind_some, if_neg (by omega), if_neg (by omega), if_neg (by omega), sg]
    rfl
  show regex_reader_rows.f (k + 1 + 1 + 1 + 1) s 0 [] = _
  rw [regex_reader_rows.f, regex_reader_row.f, regex_reader_piece.f, at_]
  rfl
/-! #### groups -/
theorem byte_left (x y : ByteArray) (i : Int) (h0 : 0 ≤ i) (h1 : i < (x.size : Int)) : bt (x ++ y) i = bt x i := by
  unfold bt
  rw [dif_pos (by rw [ByteArray.size_append]; omega), dif_pos (by omega)]
  rw [ByteArray.getElem_append_left (by omega)]
theorem byte_right (x y : ByteArray) (i : Int) (h0 : (x.size : Int) ≤ i) (h1 : i < (x.size : Int) + (y.size : Int)) : bt (x ++ y) i = bt y (i - (x.size : Int)) := by
  unfold bt
  rw [dif_pos (by rw [ByteArray.size_append]; omega), dif_pos (by omega)]
  rw [ByteArray.getElem_append_right (by omega)]
  congr 3
  omega
theorem stop_piece {T : ByteArray} {p c : Int} (hn : regex_reader_next.f T p = some c) (hc : c = -1 ∨ c = 40 ∨ c = 124) (out : List S40) : Ev (fun k => regex_reader_piece.l0 k T p out) (.ok (p, out)) := by
  refine Ev.one fun k => ?_
  have : strings_IndexByte.f ⟨#[42, 43, 63]⟩ (if c < 0 then 0 else c) = some (-1) := by rcases hc with rfl | rfl | rfl <;> decide +kernel
  rw [regex_reader_piece.l0, hn, Option.bind_some, this, Option.bind_some, if_pos (by omega)]
theorem stop_row {T : ByteArray} {p c : Int} (hn : regex_reader_next.f T p = some c) (hc : c = -1 ∨ c = 124) (out : List S40) : Ev (fun k => regex_reader_row.l0 k T p out) (.ok (p, out)) := by
  refine Ev.one fun k => ?_
  rw [regex_reader_row.l0, hn, Option.bind_some, if_neg (fun h => by omega)]
theorem stop_rows {T : ByteArray} {p c : Int} (hn : regex_reader_next.f T p = some c) (hc : c ≠ 124) (out : List S40) : Ev (fun k => regex_reader_rows.l0 k T p out) (.ok (p, out)) := by
  refine Ev.one fun k => ?_
  rw [regex_reader_rows.l0, hn, Option.bind_some, if_neg hc]
theorem parse_ok {T : ByteArray} {l : List S40} (hT : (T.size : Int) ≤ 200) (hl : (l.length : Int) ≤ 60) (h : Ev (fun k => regex_reader_rows.f k T 0 []) (.ok ((T.size : Int), l))) : Ev (fun k => regex_Parse.f k T) (l, 0, 0) := by
  obtain ⟨K, hK⟩ := h
  refine ⟨K, fun k hk => ?_⟩
  have := hK k hk
  simp only at this
  show regex_Parse.f k T = _
  unfold regex_Parse.f
  rw [if_neg (by omega), this, Option.bind_some]
  simp only
  rw [if_neg (by omega), if_neg (by omega)]
theorem same_l0 (l : List S40) (hl : l.length ≤ 1000) (d : Nat) : ∀ (i : Nat), i + d = l.length → Ev (fun k => topiaryref06_Same.l0 k l l (i : Int)) true := by
  induction d with
  | zero =>
    intro i h
    refine Ev.one fun k => ?_
    rw [topiaryref06_Same.l0, if_neg (by omega)]
  | succ d ih =>
    intro i h
    refine .step (fun k => ?_) (ih (i + 1) (by omega))
    have hw : wrap64 ((i : Int) + 1) = ((i + 1 : Nat) : Int) := by unfold wrap64; omega
    rw [topiaryref06_Same.l0, if_pos (by omega), if_pos (by omega), if_pos (by omega), if_neg (by simp), hw]
theorem same_f (l : List S40) (hl : l.length ≤ 1000) : Ev (fun k => topiaryref06_Same.f k l l) true := by
  refine .congr (fun k => ?_) (same_l0 l hl l.length 0 (by omega))
  rw [topiaryref06_Same.f, if_pos rfl]
  rfl
theorem wakes_f : ∃ k, topiarylaw06_wakes.f k = some true := ⟨200, by decide +kernel⟩

/-! #### how what is told of a byte is read -/
/-- T holds s from p on. -/
structure At (s T : ByteArray) (p : Int) : Prop where
  n0 : 0 ≤ p
  size : p + (s.size : Int) ≤ (T.size : Int)
  small : (T.size : Int) < 1000
  byte : ∀ i, 0 ≤ i → i < (s.size : Int) → bt T (p + i) = bt s i
theorem At.left {x y T : ByteArray} {p : Int} (h : At (x ++ y) T p) : At x T p := by
  have hz := h.size
  rw [ByteArray.size_append] at hz
  exact ⟨h.n0, by omega, h.small, fun i h0 h1 => by rw [h.byte i h0 (by rw [ByteArray.size_append]; omega), byte_left x y i h0 h1]⟩
theorem At.right {x y T : ByteArray} {p : Int} (h : At (x ++ y) T p) : At y T (p + (x.size : Int)) := by
  have hz := h.size
  have h0 := h.n0
  rw [ByteArray.size_append] at hz
  refine ⟨by omega, by omega, h.small, fun i h0 h1 => ?_⟩
  rw [show p + (x.size : Int) + i = p + ((x.size : Int) + i) by omega, h.byte _ (by omega) (by rw [ByteArray.size_append]; omega), byte_right x y _ (by omega) (by omega)]
  congr 1
  omega
theorem At.self {s : ByteArray} (h : (s.size : Int) < 1000) : At s s 0 := ⟨by omega, by omega, h, fun i _ _ => by rw [Int.zero_add]⟩
/-- What is ahead. -/
def nx (T : ByteArray) (p : Int) : Int := if p = (T.size : Int) then -1 else bt T p
theorem nx_f {T : ByteArray} {p : Int} (h0 : 0 ≤ p) (h1 : p ≤ (T.size : Int)) : regex_reader_next.f T p = some (nx T p) := by
  unfold nx
  by_cases e : p = (T.size : Int)
  · rw [if_pos e, nx_end e]
  · rw [if_neg e, nx_self h0 (by omega)]
theorem nx_at {s T : ByteArray} {p i : Int} (h : At s T p) (h0 : 0 ≤ i) (h1 : i < (s.size : Int)) : nx T (p + i) = bt s i := by
  have a1 := h.size
  unfold nx
  rw [if_neg (by omega), h.byte i h0 h1]
theorem nx_head {s T : ByteArray} {p : Int} (h : At s T p) (h1 : 0 < (s.size : Int)) : nx T p = bt s 0 := by
  have := nx_at h (Int.le_refl 0) h1
  rw [Int.add_zero] at this
  exact this
def NTC : ByteArray := ⟨#[91, 93, 94, 45, 47]⟩
def escOk (e b : Int) : Bool := match regex_reader_sign.esc ⟨#[]⟩ 0 e BYA with
  | some (.ok q) => q.1 == b
  | _ => false
def hexOk (c d b : Int) : Bool := match regex_digit.f c, regex_digit.f d with
  | some x, some y => decide (0 ≤ x) && (decide (0 ≤ y) && ((16 * x + y) % 256 == b))
  | _, _ => false
def noIx (nt : ByteArray) (b : Int) : Bool := match strings_IndexByte.f nt b with
  | some i => decide (i < 0)
  | none => false
/-- s reads as b. -/
def okOne (nt : ByteArray) (b : Int) (s : ByteArray) : Bool :=
  (s.size == 1 && (bt s 0 == b && (decide (32 ≤ b) && (decide (b ≤ 126) && (decide (b ≠ 92) && noIx nt b))))) ||
  (s.size == 2 && (bt s 0 == 92 && (decide (bt s 1 ≠ 120) && (decide (0 ≤ bt s 1) && (decide (bt s 1 ≤ 255) && escOk (bt s 1) b))))) ||
  (s.size == 4 && (bt s 0 == 92 && (bt s 1 == 120 && hexOk (bt s 2) (bt s 3) b)))
theorem sign_ok {nt s T : ByteArray} {b p : Int} (h : okOne nt b s = true) (ha : At s T p) : regex_reader_sign.f T p nt BYA = some (.ok (b, p + (s.size : Int))) := by
  have n0 := ha.n0
  have hz := ha.size
  have hs := ha.small
  unfold okOne at h
  rw [Bool.or_eq_true, Bool.or_eq_true] at h
  rcases h with (h | h) | h
  · simp only [Bool.and_eq_true, beq_iff_eq, decide_eq_true_eq] at h
    obtain ⟨h1, h2, h3, h4, h5, h6⟩ := h
    have hn : regex_reader_next.f T p = some b := by rw [nx_f n0 (by omega), nx_head ha (by omega), h2]
    unfold noIx at h6
    obtain ⟨i, hi⟩ := ix_some nt b
    rw [hi] at h6
    have h6 : i < 0 := by simpa using h6
    unfold regex_reader_sign.f
    rw [if_pos (by omega), hn, Option.bind_some, if_neg (by omega), if_neg (by omega), if_pos h5, hi, Option.bind_some, if_neg (by omega), h1]
    rfl
  · simp only [Bool.and_eq_true, beq_iff_eq, decide_eq_true_eq] at h
    obtain ⟨h1, h2, h3, h4, h5, h6⟩ := h
    have hn : regex_reader_next.f T p = some 92 := by rw [nx_f n0 (by omega), nx_head ha (by omega), h2]
    have hn1 : regex_reader_next.f T (p + 1) = some (bt s 1) := by rw [nx_f (by omega) (by omega), nx_at ha (by omega) (by omega)]
    have he : ∀ a, regex_reader_sign.esc T a (bt s 1) BYA = some (.ok (b, a + 2)) := by
      intro a
      unfold escOk at h6
      rcases esc_spec (bt s 1) h4 h5 with ⟨v, _, _, hv⟩ | hv
      · rw [hv] at h6
        have : v = b := by simpa using h6
        rw [hv, this]
      · rw [hv] at h6
        cases h6
    unfold regex_reader_sign.f
    rw [if_pos (by omega), hn, Option.bind_some, if_neg (by omega), if_neg (by omega), if_neg (by omega), hn1, Option.bind_some, if_neg h3, he, h1]
    rfl
  · simp only [Bool.and_eq_true, beq_iff_eq] at h
    obtain ⟨h1, h2, h3, h4⟩ := h
    have hn : regex_reader_next.f T p = some 92 := by rw [nx_f n0 (by omega), nx_head ha (by omega), h2]
    have hn1 : regex_reader_next.f T (p + 1) = some 120 := by rw [nx_f (by omega) (by omega), nx_at ha (by omega) (by omega), h3]
    have hb2 : bt T (p + 2) = bt s 2 := ha.byte 2 (by omega) (by omega)
    have hb3 : bt T (p + 3) = bt s 3 := ha.byte 3 (by omega) (by omega)
    have hx : regex_reader_sign.hex T p = some (some b) := by
      unfold hexOk at h4
      cases e1 : regex_digit.f (bt s 2) with
      | none => rw [e1] at h4; cases h4
      | some x =>
        cases e2 : regex_digit.f (bt s 3) with
        | none => rw [e1, e2] at h4; cases h4
        | some y =>
          rw [e1, e2] at h4
          simp only [Bool.and_eq_true, decide_eq_true_eq, beq_iff_eq] at h4
          obtain ⟨g1, g2, g3⟩ := h4
          unfold regex_reader_sign.hex
          rw [if_pos (by omega), hb2, hb3, e1, Option.bind_some, if_pos g1, e2, Option.bind_some, if_pos g2, g3]
    unfold regex_reader_sign.f
    rw [if_pos (by omega), hn, Option.bind_some, if_neg (by omega), if_neg (by omega), if_neg (by omega), hn1, Option.bind_some, if_pos rfl, hx, Option.bind_some, h1]
    rfl
def headOk (l : List Int) (s : ByteArray) : Bool := decide (1 ≤ s.size) && (decide (s.size ≤ 4) && !l.contains (bt s 0))
theorem all_spc : ∀ b : Fin 256, (regex_one.f (b.val : Int) SPC).isSome = true ∧ okOne SPC (b.val : Int) ((regex_one.f (b.val : Int) SPC).getD ⟨#[]⟩) = true ∧ headOk [40, 41, 42, 43, 46, 63, 91, 124] ((regex_one.f (b.val : Int) SPC).getD ⟨#[]⟩) = true := by decide +kernel
theorem all_cls : ∀ b : Fin 256, (regex_one.f (b.val : Int) CLS).isSome = true ∧ okOne NTC (b.val : Int) ((regex_one.f (b.val : Int) CLS).getD ⟨#[]⟩) = true ∧ headOk [45, 93, 94] ((regex_one.f (b.val : Int) CLS).getD ⟨#[]⟩) = true := by decide +kernel
def ts (b : Nat) : ByteArray := (regex_one.f (b : Int) SPC).getD ⟨#[]⟩
def t1 (b : Nat) : ByteArray := (regex_one.f (b : Int) CLS).getD ⟨#[]⟩
theorem getD_of_some {α : Type} {o : Option α} {d : α} (h : o.isSome = true) : o = some (o.getD d) := by
  cases o with
  | none => cases h
  | some x => rfl
theorem ts_f (b : Nat) (hb : b < 256) : regex_one.f (b : Int) SPC = some (ts b) := getD_of_some (all_spc ⟨b, hb⟩).1
theorem t1_f (b : Nat) (hb : b < 256) : regex_one.f (b : Int) CLS = some (t1 b) := getD_of_some (all_cls ⟨b, hb⟩).1
theorem head_of {l : List Int} {s : ByteArray} (h : headOk l s = true) : 1 ≤ s.size ∧ s.size ≤ 4 ∧ ∀ c ∈ l, bt s 0 ≠ c := by
  unfold headOk at h
  simp only [Bool.and_eq_true, decide_eq_true_eq, Bool.not_eq_true', List.contains_eq_mem, decide_eq_false_iff_not] at h
  exact ⟨h.1, h.2.1, fun c hc e => h.2.2 (e ▸ hc)⟩
theorem ts_ok (b : Nat) (hb : b < 256) : okOne SPC (b : Int) (ts b) = true := (all_spc ⟨b, hb⟩).2.1
theorem t1_ok (b : Nat) (hb : b < 256) : okOne NTC (b : Int) (t1 b) = true := (all_cls ⟨b, hb⟩).2.1
theorem ts_head (b : Nat) (hb : b < 256) : 1 ≤ (ts b).size ∧ (ts b).size ≤ 4 ∧ ∀ c ∈ [40, 41, 42, 43, 46, 63, 91, 124], bt (ts b) 0 ≠ c := head_of (all_spc ⟨b, hb⟩).2.2
theorem t1_head (b : Nat) (hb : b < 256) : 1 ≤ (t1 b).size ∧ (t1 b).size ≤ 4 ∧ ∀ c ∈ [45, 93, 94], bt (t1 b) 0 ≠ c := head_of (all_cls ⟨b, hb⟩).2.2

end Go.Proofs.YtkabcjchgaokoaaDoor.Pure
