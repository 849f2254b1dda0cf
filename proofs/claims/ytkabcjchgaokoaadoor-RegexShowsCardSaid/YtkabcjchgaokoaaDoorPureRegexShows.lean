/- Proved here: what RegexShows computes is true of any cells. No condition but that the slice is no longer than a machine can hold, and its words are words. -/
import Derived.Test.YtkabcjchgaokoaaDoorGSix28
import Derived.Test.YtkabcjchgaokoaaDoorGSix17
import Derived.Test.YtkabcjchgaokoaaDoorGSix7
import Derived.Laws.Bits64b
namespace Go.Proofs.YtkabcjchgaokoaaDoor.Pure
open Go.RowKit Go.Proofs.YtkabcjchgaokoaaDoor.PSi Go.Proofs.YtkabcjchgaokoaaDoorW.PrintWords Go.Proofs.YtkabcjchgaokoaaDoorW.PrintLast
set_option linter.unusedVariables false
set_option linter.unusedSimpArgs false

/-! #### how many bits -/
def val : List Nat → Nat
  | [] => 0
  | b :: l => b + 256 * val l
def cnt (x : Nat) : Nat → Nat
  | 0 => 0
  | n + 1 => x % 2 + cnt (x / 2) n
theorem and_split (a x m n : Nat) (ha : a < 256) (hm : m < 256) : (a + 256 * x) &&& (m + 256 * n) = (a &&& m) + 256 * (x &&& n) := by
  have hlt : a &&& m < 2 ^ 8 := Nat.and_lt_two_pow _ hm
  apply Nat.eq_of_testBit_eq
  intro i
  rw [show a + 256 * x = 2 ^ 8 * x + a by omega, show m + 256 * n = 2 ^ 8 * n + m by omega, show (a &&& m) + 256 * (x &&& n) = 2 ^ 8 * (x &&& n) + (a &&& m) by omega, Nat.testBit_and, Nat.testBit_two_pow_mul_add _ ha, Nat.testBit_two_pow_mul_add _ hm, Nat.testBit_two_pow_mul_add _ hlt]
  split
  · rw [Nat.testBit_and]
  · rw [Nat.testBit_and]
theorem val_and (m : Nat) (hm : m < 256) : ∀ l : List Nat, (∀ b ∈ l, b < 256) → val l &&& val (l.map fun _ => m) = val (l.map fun b => b &&& m)
  | [], _ => by simp [val]
  | b :: l, h => by
    simp only [List.map_cons, val]
    rw [and_split _ _ _ _ (h b List.mem_cons_self) hm, val_and m hm l (fun c hc => h c (List.mem_cons_of_mem _ hc))]
theorem half_mask : ∀ b : Fin 256, ∀ c : Fin 2, (b.val / 2 + 128 * c.val) &&& 85 = (b.val / 2) &&& 85 := by decide +kernel
theorem quar_mask : ∀ b : Fin 256, ∀ c : Fin 4, (b.val / 4 + 64 * c.val) &&& 51 = (b.val / 4) &&& 51 := by decide +kernel
theorem val_half : ∀ l : List Nat, (∀ b ∈ l, b < 256) → (val l / 2) &&& val (l.map fun _ => 85) = val (l.map fun b => (b / 2) &&& 85)
  | [], _ => by simp [val]
  | b :: l, h => by
    have hb := h b List.mem_cons_self
    simp only [List.map_cons, val]
    have e : (b + 256 * val l) / 2 = (b / 2 + 128 * (val l % 2)) + 256 * (val l / 2) := by omega
    rw [e, and_split _ _ _ _ (by omega) (by omega), val_half l (fun c hc => h c (List.mem_cons_of_mem _ hc))]
    have := half_mask ⟨b, hb⟩ ⟨val l % 2, by omega⟩
    simp only at this
    rw [this]
theorem val_quar : ∀ l : List Nat, (∀ b ∈ l, b < 256) → (val l / 4) &&& val (l.map fun _ => 51) = val (l.map fun b => (b / 4) &&& 51)
  | [], _ => by simp [val]
  | b :: l, h => by
    have hb := h b List.mem_cons_self
    simp only [List.map_cons, val]
    have e : (b + 256 * val l) / 4 = (b / 4 + 64 * (val l % 4)) + 256 * (val l / 4) := by omega
    rw [e, and_split _ _ _ _ (by omega) (by omega), val_quar l (fun c hc => h c (List.mem_cons_of_mem _ hc))]
    have := quar_mask ⟨b, hb⟩ ⟨val l % 4, by omega⟩
    simp only at this
    rw [this]
theorem nib_mask : ∀ b : Fin 69, ∀ c : Fin 16, c.val ≤ 4 → (b.val / 16 + 16 * c.val + b.val) &&& 15 = (b.val / 16 + b.val) % 16 := by decide +kernel
theorem val_add (f g : Nat → Nat) : ∀ l : List Nat, val (l.map f) + val (l.map g) = val (l.map fun b => f b + g b)
  | [] => rfl
  | b :: l => by
    simp only [List.map_cons, val]
    have := val_add f g l
    omega
theorem val_nib : ∀ l : List Nat, (∀ b ∈ l, b < 69 ∧ b % 16 ≤ 4) → ((val l / 16) + val l) &&& val (l.map fun _ => 15) = val (l.map fun b => (b / 16 + b) % 16)
  | [], _ => by simp [val]
  | b :: l, h => by
    have hb := h b List.mem_cons_self
    have hv : val l % 16 ≤ 4 := by
      cases l with
      | nil => simp [val]
      | cons c l => have := (h c (List.mem_cons_of_mem _ List.mem_cons_self)).2; simp only [val]; omega
    simp only [List.map_cons, val]
    have e : (b + 256 * val l) / 16 + (b + 256 * val l) = (b / 16 + 16 * (val l % 16) + b) + 256 * (val l / 16 + val l) := by omega
    rw [e, and_split _ _ _ _ (by omega) (by omega), val_nib l (fun c hc => h c (List.mem_cons_of_mem _ hc))]
    have := nib_mask ⟨b, hb.1⟩ ⟨val l % 16, by omega⟩ hv
    simp only at this
    rw [this]
/-- A byte's bits, as the first two steps and the third leave them. -/
def s1 (b : Nat) : Nat := ((b / 2) &&& 85) + (b &&& 85)
def s2 (b : Nat) : Nat := ((b / 4) &&& 51) + (b &&& 51)
def s3 (b : Nat) : Nat := (b / 16 + b) % 16
theorem s12 : ∀ b : Fin 256, s1 b.val < 171 ∧ s2 (s1 b.val) < 69 ∧ s2 (s1 b.val) % 16 ≤ 4 ∧ s3 (s2 (s1 b.val)) = cnt b.val 8 ∧ cnt b.val 8 ≤ 8 := by decide +kernel
theorem cnt_add (x : Nat) : ∀ (m n : Nat), cnt x (m + n) = cnt x m + cnt (x / 2 ^ m) n
  | 0, n => by simp [cnt]
  | m + 1, n => by
    rw [show m + 1 + n = (m + n) + 1 by omega]
    simp only [cnt]
    rw [cnt_add (x / 2) m n, Nat.div_div_eq_div_mul, Nat.pow_succ, Nat.mul_comm 2]
    omega
theorem cnt_low (b x : Nat) (hb : b < 256) : cnt (b + 256 * x) 8 = cnt b 8 := by
  simp only [cnt]
  omega
theorem cnt_val : ∀ l : List Nat, (∀ b ∈ l, b < 256) → cnt (val l) (8 * l.length) = (l.map fun b => cnt b 8).sum
  | [], _ => rfl
  | b :: l, h => by
    have hb := h b List.mem_cons_self
    simp only [List.length_cons, List.map_cons, List.sum_cons, val]
    rw [show 8 * (l.length + 1) = 8 + 8 * l.length by omega, cnt_add, cnt_low b _ hb, show (b + 256 * val l) / 2 ^ 8 = val l by omega, cnt_val l (fun c hc => h c (List.mem_cons_of_mem _ hc))]
theorem bytes8 (x : Nat) (hx : x < 18446744073709551616) : ∃ b0 b1 b2 b3 b4 b5 b6 b7 : Nat, (∀ b ∈ [b0, b1, b2, b3, b4, b5, b6, b7], b < 256) ∧ x = val [b0, b1, b2, b3, b4, b5, b6, b7] := by
  refine ⟨x % 256, x / 256 % 256, x / 65536 % 256, x / 16777216 % 256, x / 4294967296 % 256, x / 1099511627776 % 256, x / 281474976710656 % 256, x / 72057594037927936, ?_, ?_⟩
  · intro b hb
    simp only [List.mem_cons, List.not_mem_nil, or_false] at hb
    omega
  · simp only [val]
    omega
/-- bits.OnesCount64's way, over the numbers. -/
def ones (x : Nat) : Nat :=
  let a := ((x / 2) &&& 6148914691236517205) + (x &&& 6148914691236517205)
  let b := ((a / 4) &&& 3689348814741910323) + (a &&& 3689348814741910323)
  let c := ((b / 16) + b) &&& 1085102592571150095
  let d := c + c / 256
  let e := d + d / 65536
  let f := e + e / 4294967296
  f % 128
theorem fold8 (c0 c1 c2 c3 c4 c5 c6 c7 : Nat) (p0 : c0 ≤ 8) (p1 : c1 ≤ 8) (p2 : c2 ≤ 8) (p3 : c3 ≤ 8) (p4 : c4 ≤ 8) (p5 : c5 ≤ 8) (p6 : c6 ≤ 8) (p7 : c7 ≤ 8) (c d e f : Nat) (hc : c = val [c0, c1, c2, c3, c4, c5, c6, c7]) (hd : d = c + c / 256) (he : e = d + d / 65536) (hf : f = e + e / 4294967296) :
    f % 128 = [c0, c1, c2, c3, c4, c5, c6, c7].sum ∧ f < 18446744073709551616 ∧ e < 18446744073709551616 ∧ d < 18446744073709551616 := by
  have h1 : c / 256 = val [c1, c2, c3, c4, c5, c6, c7] := by rw [hc]; simp only [val]; omega
  have h2 : d = val [c0 + c1, c1 + c2, c2 + c3, c3 + c4, c4 + c5, c5 + c6, c6 + c7, c7] := by rw [hd, h1, hc]; simp only [val]; omega
  have h3 : d / 65536 = val [c2 + c3, c3 + c4, c4 + c5, c5 + c6, c6 + c7, c7] := by rw [h2]; simp only [val]; omega
  have h4 : e = val [c0 + c1 + (c2 + c3), c1 + c2 + (c3 + c4), c2 + c3 + (c4 + c5), c3 + c4 + (c5 + c6), c4 + c5 + (c6 + c7), c5 + c6 + c7, c6 + c7, c7] := by rw [he, h3, h2]; simp only [val]; omega
  have h5 : e / 4294967296 = val [c4 + c5 + (c6 + c7), c5 + c6 + c7, c6 + c7, c7] := by rw [h4]; simp only [val]; omega
  have h6 : f = c0 + c1 + (c2 + c3) + (c4 + c5 + (c6 + c7)) + 256 * val [c1 + c2 + (c3 + c4) + (c5 + c6 + c7), c2 + c3 + (c4 + c5) + (c6 + c7), c3 + c4 + (c5 + c6) + c7, c4 + c5 + (c6 + c7), c5 + c6 + c7, c6 + c7, c7] := by rw [hf, h5, h4]; simp only [val]; omega
  refine ⟨?_, ?_, ?_, ?_⟩
  · rw [h6]
    simp only [List.sum_cons, List.sum_nil]
    omega
  · rw [h6]; simp only [val]; omega
  · rw [h4]; simp only [val]; omega
  · rw [h2]; simp only [val]; omega
set_option maxHeartbeats 1000000 in
theorem ones_cnt (x : Nat) (hx : x < 18446744073709551616) : ones x = cnt x 64 := by
  obtain ⟨b0, b1, b2, b3, b4, b5, b6, b7, hb, rfl⟩ := bytes8 x hx
  have hc := cnt_val [b0, b1, b2, b3, b4, b5, b6, b7] hb
  rw [show 8 * [b0, b1, b2, b3, b4, b5, b6, b7].length = 64 from rfl] at hc
  have hs : ∀ b ∈ [b0, b1, b2, b3, b4, b5, b6, b7], s1 b < 171 ∧ s2 (s1 b) < 69 ∧ s2 (s1 b) % 16 ≤ 4 ∧ s3 (s2 (s1 b)) = cnt b 8 ∧ cnt b 8 ≤ 8 := fun b h => s12 ⟨b, hb b h⟩
  have m5 : val ([b0, b1, b2, b3, b4, b5, b6, b7].map fun _ => 85) = 6148914691236517205 := by simp [val]
  have m3 : val (([b0, b1, b2, b3, b4, b5, b6, b7].map s1).map fun _ => 51) = 3689348814741910323 := by simp [val]
  have m1 : val ((([b0, b1, b2, b3, b4, b5, b6, b7].map s1).map s2).map fun _ => 15) = 1085102592571150095 := by simp [val]
  have e1 : ((val [b0, b1, b2, b3, b4, b5, b6, b7] / 2) &&& 6148914691236517205) + (val [b0, b1, b2, b3, b4, b5, b6, b7] &&& 6148914691236517205) = val ([b0, b1, b2, b3, b4, b5, b6, b7].map s1) := by
    rw [← m5, val_half _ hb, val_and 85 (by omega) _ hb, val_add]
    exact congrArg val (List.map_congr_left fun b _ => rfl)
  have hb1 : ∀ b ∈ [b0, b1, b2, b3, b4, b5, b6, b7].map s1, b < 256 := by
    intro b h
    obtain ⟨c, hc, rfl⟩ := List.mem_map.mp h
    have := (hs c hc).1
    omega
  have e2 : ((val ([b0, b1, b2, b3, b4, b5, b6, b7].map s1) / 4) &&& 3689348814741910323) + (val ([b0, b1, b2, b3, b4, b5, b6, b7].map s1) &&& 3689348814741910323) = val (([b0, b1, b2, b3, b4, b5, b6, b7].map s1).map s2) := by
    rw [← m3, val_quar _ hb1, val_and 51 (by omega) _ hb1, val_add]
    exact congrArg val (List.map_congr_left fun b _ => rfl)
  have hb2 : ∀ b ∈ ([b0, b1, b2, b3, b4, b5, b6, b7].map s1).map s2, b < 69 ∧ b % 16 ≤ 4 := by
    intro b h
    obtain ⟨c, hc, rfl⟩ := List.mem_map.mp h
    obtain ⟨d, hd, rfl⟩ := List.mem_map.mp hc
    exact ⟨(hs d hd).2.1, (hs d hd).2.2.1⟩
  have e3 : ((val (([b0, b1, b2, b3, b4, b5, b6, b7].map s1).map s2) / 16) + val (([b0, b1, b2, b3, b4, b5, b6, b7].map s1).map s2)) &&& 1085102592571150095 = val ([b0, b1, b2, b3, b4, b5, b6, b7].map fun b => cnt b 8) := by
    rw [← m1, val_nib _ hb2, List.map_map, List.map_map]
    exact congrArg val (List.map_congr_left fun b h => (hs b h).2.2.2.1)
  unfold ones
  simp only [e1, e2, e3, hc]
  have p0 := (hs b0 (by simp)).2.2.2.2
  have p1 := (hs b1 (by simp)).2.2.2.2
  have p2 := (hs b2 (by simp)).2.2.2.2
  have p3 := (hs b3 (by simp)).2.2.2.2
  have p4 := (hs b4 (by simp)).2.2.2.2
  have p5 := (hs b5 (by simp)).2.2.2.2
  have p6 := (hs b6 (by simp)).2.2.2.2
  have p7 := (hs b7 (by simp)).2.2.2.2
  exact (fold8 _ _ _ _ _ _ _ _ p0 p1 p2 p3 p4 p5 p6 p7 _ _ _ _ rfl rfl rfl rfl).1
/-! #### sets -/
structure Words (x0 x1 x2 x3 : Int) : Prop where
  w0 : u64ok x0
  w1 : u64ok x1
  w2 : u64ok x2
  w3 : u64ok x3
theorem word_ok {x0 x1 x2 x3 : Int} (h : Words x0 x1 x2 x3) (b : Int) : u64ok (word4 x0 x1 x2 x3 b) := by
  unfold word4
  split
  · exact h.w0
  · split
    · exact h.w1
    · split
      · exact h.w2
      · exact h.w3
def hasB (x0 x1 x2 x3 : Int) (b : Nat) : Bool := (word4 x0 x1 x2 x3 (b : Int)).toNat.testBit (b % 64)
theorem has_f {x0 x1 x2 x3 : Int} (h : Words x0 x1 x2 x3) (b : Nat) (hb : b < 256) : bytes_Has.f x0 x1 x2 x3 (b : Int) = some (hasB x0 x1 x2 x3 b) := by
  have hw := word_ok h (b : Int)
  unfold bytes_Has.f hasB
  rw [if_pos ⟨by omega, by omega⟩]
  generalize word4 x0 x1 x2 x3 (b : Int) = x at *
  obtain ⟨n, rfl⟩ := Int.eq_ofNat_of_zero_le hw.1
  have hn : n < 18446744073709551616 := by have := hw.2; omega
  have e1 : ((b : Int) % 64).toNat = b % 64 := by omega
  have e2 : (n : Int) / 2 ^ ((b : Int) % 64).toNat = ((n / 2 ^ (b % 64) : Nat) : Int) := by rw [e1]; simp
  rw [e2, show (1 : Int) = ((1 : Nat) : Int) from rfl, bits_and_u64_nat _ _ (Nat.lt_of_le_of_lt (Nat.div_le_self _ _) hn) (by decide), Nat.and_one_is_mod, Nat.testBit_eq_decide_div_mod_eq, Int.toNat_natCast]
  congr 1
  by_cases c : n / 2 ^ (b % 64) % 2 = 1
  · simp [c]
  · have c0 : n / 2 ^ (b % 64) % 2 = 0 := by omega
    simp [c0]
theorem refhas_f {x0 x1 x2 x3 : Int} (h : Words x0 x1 x2 x3) (b : Nat) (hb : b < 256) : topiaryref05_Has.f x0 x1 x2 x3 (b : Int) = some (hasB x0 x1 x2 x3 b) := by
  have hw := word_ok h (b : Int)
  unfold topiaryref05_Has.f hasB
  rw [if_pos ⟨by omega, by omega⟩]
  generalize word4 x0 x1 x2 x3 (b : Int) = x at *
  obtain ⟨n, rfl⟩ := Int.eq_ofNat_of_zero_le hw.1
  have hn : n < 18446744073709551616 := by have := hw.2; omega
  have e1 : ((b : Int) % 64).toNat = b % 64 := by omega
  have hp : 2 ^ (b % 64) < 2 ^ 64 := Nat.pow_lt_pow_right (by decide) (by omega)
  have e2 : IntKind.u64.wrap (2 ^ ((b : Int) % 64).toNat) = ((2 ^ (b % 64) : Nat) : Int) := by
    rw [e1, IntKind.wrap_u64, show (2 : Int) ^ (b % 64) = ((2 ^ (b % 64) : Nat) : Int) by simp]
    generalize 2 ^ (b % 64) = q at hp ⊢
    omega
  have hd : n / 2 ^ (b % 64) ≤ n := Nat.div_le_self _ _
  have e3 : Int.tdiv (n : Int) ((2 ^ (b % 64) : Nat) : Int) = ((n / 2 ^ (b % 64) : Nat) : Int) := by
    rw [Int.tdiv_eq_ediv_of_nonneg (by omega)]
    exact (Int.natCast_ediv _ _).symm
  rw [e2, e3, Nat.testBit_eq_decide_div_mod_eq, Int.toNat_natCast]
  clear e2 e3
  generalize n / 2 ^ (b % 64) = q at hd ⊢
  rw [IntKind.wrap_u64, show (q : Int) % 18446744073709551616 = (q : Int) by omega, Int.tmod_eq_emod_of_nonneg (by omega)]
  congr 1
  by_cases c : q % 2 = 1
  · have c2 : (q : Int) % 2 = 1 := by omega
    simp [c, c2]
  · have c0 : q % 2 = 0 := by omega
    have c2 : (q : Int) % 2 = 0 := by omega
    simp [c0, c2]
/-- How many of the first n are members. -/
def cntB (p : Nat → Bool) : Nat → Nat
  | 0 => 0
  | n + 1 => cntB p n + (p n).toNat
theorem cnt_bits (x : Nat) : ∀ n, cnt x n = cntB (fun j => x.testBit j) n
  | 0 => rfl
  | n + 1 => by
    rw [cnt_add x n 1, cnt_bits x n]
    simp only [cnt, cntB, Nat.add_zero]
    congr 1
    rw [Nat.testBit_eq_decide_div_mod_eq]
    by_cases c : x / 2 ^ n % 2 = 1
    · simp [c]
    · have : x / 2 ^ n % 2 = 0 := by omega
      simp [this]
theorem cntB_add (p : Nat → Bool) (m : Nat) : ∀ n, cntB p (m + n) = cntB p m + cntB (fun j => p (m + j)) n
  | 0 => rfl
  | n + 1 => by
    rw [← Nat.add_assoc]
    simp only [cntB]
    rw [cntB_add p m n]
    omega
theorem cntB_congr {p q : Nat → Bool} : ∀ n, (∀ j, j < n → p j = q j) → cntB p n = cntB q n
  | 0, _ => rfl
  | n + 1, h => by
    simp only [cntB]
    rw [cntB_congr n (fun j hj => h j (by omega)), h n (by omega)]
theorem cntB_le (p : Nat → Bool) : ∀ n, cntB p n ≤ n
  | 0 => Nat.le_refl _
  | n + 1 => by
    have := cntB_le p n
    simp only [cntB]
    cases p n <;> simp <;> omega
def cntS (x0 x1 x2 x3 : Int) : Nat := cntB (hasB x0 x1 x2 x3) 256
theorem cntS_words {x0 x1 x2 x3 : Int} : cntS x0 x1 x2 x3 = cnt x0.toNat 64 + cnt x1.toNat 64 + cnt x2.toNat 64 + cnt x3.toNat 64 := by
  unfold cntS
  rw [show 256 = 64 + (64 + (64 + 64)) from rfl, cntB_add, cntB_add, cntB_add, cnt_bits, cnt_bits, cnt_bits, cnt_bits]
  have e0 : cntB (hasB x0 x1 x2 x3) 64 = cntB (fun j => x0.toNat.testBit j) 64 := cntB_congr _ fun j hj => by
    unfold hasB word4
    rw [if_pos (by omega), show j % 64 = j by omega]
  have e1 : cntB (fun j => hasB x0 x1 x2 x3 (64 + j)) 64 = cntB (fun j => x1.toNat.testBit j) 64 := cntB_congr _ fun j hj => by
    unfold hasB word4
    rw [if_neg (by omega), if_pos (by omega), show (64 + j) % 64 = j by omega]
  have e2 : cntB (fun j => hasB x0 x1 x2 x3 (64 + (64 + j))) 64 = cntB (fun j => x2.toNat.testBit j) 64 := cntB_congr _ fun j hj => by
    unfold hasB word4
    rw [if_neg (by omega), if_neg (by omega), if_pos (by omega), show (64 + (64 + j)) % 64 = j by omega]
  have e3 : cntB (fun j => hasB x0 x1 x2 x3 (64 + (64 + (64 + j)))) 64 = cntB (fun j => x3.toNat.testBit j) 64 := cntB_congr _ fun j hj => by
    unfold hasB word4
    rw [if_neg (by omega), if_neg (by omega), if_neg (by omega), show (64 + (64 + (64 + j))) % 64 = j by omega]
  rw [e0, e1, e2, e3]
  omega
theorem bits_and_i64_low (a : Nat) (ha : a < 9223372036854775808) : bits .and .i64 (a : Int) 127 = ((a % 128 : Nat) : Int) := by
  have h1 : (BitVec.ofInt 64 (a : Int)).toNat = a := by
    rw [BitVec.ofInt_natCast, BitVec.toNat_ofNat]; exact Nat.mod_eq_of_lt (by omega)
  have h2 : (BitVec.ofInt 64 (127 : Int)).toNat = 127 := by decide
  show IntKind.i64.wrap ((BitVec.ofInt 64 (a : Int) &&& BitVec.ofInt 64 (127 : Int)).toNat : Int) = _
  rw [BitVec.toNat_and, h1, h2, show (127 : Nat) = 2 ^ 7 - 1 from rfl, Nat.and_two_pow_sub_one_eq_mod]
  rw [IntWalk.i64_in _ (by omega)]
theorem ones_f (n : Nat) (hn : n < 18446744073709551616) : bits_OnesCount64.f (n : Int) = some ((cnt n 64 : Nat) : Int) := by
  rw [← ones_cnt n hn]
  unfold bits_OnesCount64.f ones
  have k1 : ((n : Int) / 2) = ((n / 2 : Nat) : Int) := by omega
  have l1 : (n / 2) &&& 6148914691236517205 ≤ 6148914691236517205 := Nat.and_le_right
  have l2 : n &&& 6148914691236517205 ≤ 6148914691236517205 := Nat.and_le_right
  rw [k1, show (6148914691236517205 : Int) = ((6148914691236517205 : Nat) : Int) from rfl, bits_and_u64_nat _ _ (by omega) (by omega), bits_and_u64_nat _ _ hn (by omega)]
  generalize (n / 2) &&& 6148914691236517205 = A at *
  generalize n &&& 6148914691236517205 = B at *
  rw [show IntKind.u64.wrap ((A : Int) + (B : Int)) = ((A + B : Nat) : Int) by rw [IntKind.wrap_u64]; omega]
  have hC : A + B < 18446744073709551616 := by omega
  simp only
  generalize A + B = C at *
  have k2 : ((C : Int) / 4) = ((C / 4 : Nat) : Int) := by omega
  have l3 : (C / 4) &&& 3689348814741910323 ≤ 3689348814741910323 := Nat.and_le_right
  have l4 : C &&& 3689348814741910323 ≤ 3689348814741910323 := Nat.and_le_right
  rw [k2, show (3689348814741910323 : Int) = ((3689348814741910323 : Nat) : Int) from rfl, bits_and_u64_nat _ _ (by omega) (by omega), bits_and_u64_nat _ _ hC (by omega)]
  generalize (C / 4) &&& 3689348814741910323 = D at *
  generalize C &&& 3689348814741910323 = E at *
  rw [show IntKind.u64.wrap ((D : Int) + (E : Int)) = ((D + E : Nat) : Int) by rw [IntKind.wrap_u64]; omega]
  have hF : D + E ≤ 7378697629483820646 := by omega
  generalize D + E = F at *
  rw [show IntKind.u64.wrap ((F : Int) / 16 + (F : Int)) = ((F / 16 + F : Nat) : Int) by rw [IntKind.wrap_u64]; omega, show (1085102592571150095 : Int) = ((1085102592571150095 : Nat) : Int) from rfl, bits_and_u64_nat _ _ (by omega) (by omega)]
  have l5 : (F / 16 + F) &&& 1085102592571150095 ≤ 1085102592571150095 := Nat.and_le_right
  generalize (F / 16 + F) &&& 1085102592571150095 = G at *
  rw [show IntKind.u64.wrap ((G : Int) + (G : Int) / 256) = ((G + G / 256 : Nat) : Int) by rw [IntKind.wrap_u64]; omega]
  have hH : G + G / 256 ≤ 1090000000000000000 := by omega
  generalize G + G / 256 = H at *
  rw [show IntKind.u64.wrap ((H : Int) + (H : Int) / 65536) = ((H + H / 65536 : Nat) : Int) by rw [IntKind.wrap_u64]; omega]
  have hI : H + H / 65536 ≤ 1091000000000000000 := by omega
  generalize H + H / 65536 = I at *
  rw [show IntKind.u64.wrap ((I : Int) + (I : Int) / 4294967296) = ((I + I / 4294967296 : Nat) : Int) by rw [IntKind.wrap_u64]; omega]
  have hJ : I + I / 4294967296 ≤ 1092000000000000000 := by omega
  generalize I + I / 4294967296 = J at *
  rw [show wrap64 (J : Int) = (J : Int) by unfold wrap64; omega, bits_and_i64_low J (by omega)]
theorem cnt_le (x : Nat) : ∀ n, cnt x n ≤ n := fun n => by rw [cnt_bits]; exact cntB_le _ n
theorem count_f {x0 x1 x2 x3 : Int} (h : Words x0 x1 x2 x3) : bytes_Count.f x0 x1 x2 x3 = some (cntS x0 x1 x2 x3 : Int) := by
  obtain ⟨⟨a0, b0⟩, ⟨a1, b1⟩, ⟨a2, b2⟩, a3, b3⟩ := h
  obtain ⟨n0, rfl⟩ := Int.eq_ofNat_of_zero_le a0
  obtain ⟨n1, rfl⟩ := Int.eq_ofNat_of_zero_le a1
  obtain ⟨n2, rfl⟩ := Int.eq_ofNat_of_zero_le a2
  obtain ⟨n3, rfl⟩ := Int.eq_ofNat_of_zero_le a3
  unfold bytes_Count.f
  rw [ones_f _ (by omega), Option.bind_some, ones_f _ (by omega), Option.bind_some, ones_f _ (by omega), Option.bind_some, ones_f _ (by omega), Option.bind_some, cntS_words]
  simp only [Int.toNat_natCast]
  have l0 := cnt_le n0 64
  have l1 := cnt_le n1 64
  have l2 := cnt_le n2 64
  have l3 := cnt_le n3 64
  have hw : ∀ z : Int, 0 ≤ z → z ≤ 1000 → wrap64 z = z := fun z _ _ => by unfold wrap64; omega
  rw [hw (cnt n0 64 : Int) (by omega) (by omega), hw ((cnt n0 64 : Int) + (cnt n1 64 : Int)) (by omega) (by omega), hw ((cnt n0 64 : Int) + (cnt n1 64 : Int) + (cnt n2 64 : Int)) (by omega) (by omega), hw _ (by omega) (by omega)]
  simp only [Option.some.injEq]
  omega
theorem wr64 (z : Int) (h0 : 0 ≤ z) (h1 : z ≤ 1000000000) : wrap64 z = z := by unfold wrap64; omega
theorem refcount_l0 {x0 x1 x2 x3 : Int} (h : Words x0 x1 x2 x3) (d : Nat) : ∀ (b : Nat), b + d = 256 → ∀ k, d < k → topiaryref05_Count.l0 k (cntB (hasB x0 x1 x2 x3) b : Int) (b : Int) x0 x1 x2 x3 = some (cntS x0 x1 x2 x3 : Int) := by
  induction d with
  | zero =>
    intro b hb k hk
    obtain ⟨k, rfl⟩ : ∃ m, k = m + 1 := ⟨k - 1, by omega⟩
    obtain rfl : b = 256 := by omega
    rw [topiaryref05_Count.l0, if_neg (by omega)]
    rfl
  | succ d ih =>
    intro b hb k hk
    obtain ⟨k, rfl⟩ : ∃ m, k = m + 1 := ⟨k - 1, by omega⟩
    have hle := cntB_le (hasB x0 x1 x2 x3) b
    have hi := ih (b + 1) (by omega) k (by omega)
    simp only [cntB] at hi
    rw [topiaryref05_Count.l0, if_pos (by omega), refhas_f h b (by omega), Option.bind_some, wr64 ((b : Int) + 1) (by omega) (by omega), wr64 _ (by omega) (by omega)]
    cases hp : hasB x0 x1 x2 x3 b with
    | true =>
      rw [if_pos rfl, ← hi, hp]
      rfl
    | false =>
      rw [if_neg (by decide), ← hi, hp]
      rfl
theorem refcount_f {x0 x1 x2 x3 : Int} (h : Words x0 x1 x2 x3) (k : Nat) (hk : 256 < k) : topiaryref05_Count.f k x0 x1 x2 x3 = some (cntS x0 x1 x2 x3 : Int) := refcount_l0 h 256 0 rfl k hk
/-- The least member. -/
def leastB (p : Nat → Bool) : Nat → Nat → Int
  | _, 0 => -1
  | b, d + 1 => if p b then (b : Int) else leastB p (b + 1) d
theorem refleast_l0 {x0 x1 x2 x3 : Int} (h : Words x0 x1 x2 x3) (d : Nat) : ∀ (b : Nat), b + d = 256 → ∀ k, d < k → topiaryref05_Least.l0 k (b : Int) x0 x1 x2 x3 = some (leastB (hasB x0 x1 x2 x3) b d) := by
  induction d with
  | zero =>
    intro b hb k hk
    obtain ⟨k, rfl⟩ : ∃ m, k = m + 1 := ⟨k - 1, by omega⟩
    rw [topiaryref05_Least.l0, if_neg (by omega)]
    rfl
  | succ d ih =>
    intro b hb k hk
    obtain ⟨k, rfl⟩ : ∃ m, k = m + 1 := ⟨k - 1, by omega⟩
    have hi := ih (b + 1) (by omega) k (by omega)
    rw [topiaryref05_Least.l0, if_pos (by omega), refhas_f h b (by omega), Option.bind_some, wr64 ((b : Int) + 1) (by omega) (by omega)]
    simp only [leastB]
    cases hp : hasB x0 x1 x2 x3 b with
    | true => rw [if_pos rfl, if_pos rfl]
    | false =>
      rw [if_neg (by decide), if_neg (by decide), ← hi]
      rfl
theorem refleast_f {x0 x1 x2 x3 : Int} (h : Words x0 x1 x2 x3) (k : Nat) (hk : 256 < k) : topiaryref05_Least.f k x0 x1 x2 x3 = some (leastB (hasB x0 x1 x2 x3) 0 256) := refleast_l0 h 256 0 rfl k hk
theorem leastB_eq (p : Nat → Bool) : ∀ (d b e : Nat), b ≤ e → e < b + d → p e = true → (∀ j, b ≤ j → j < e → p j = false) → leastB p b d = (e : Int)
  | 0, b, e, h0, h1, _, _ => by omega
  | d + 1, b, e, h0, h1, h2, h3 => by
    simp only [leastB]
    by_cases c : b = e
    · subst c; rw [if_pos h2]
    · rw [if_neg (by rw [h3 b (Nat.le_refl _) (by omega)]; decide)]
      exact leastB_eq p d (b + 1) e (by omega) (by omega) h2 (fun j hj hj2 => h3 j (by omega) hj2)
theorem ctz_bits (n : Nat) (h0 : n ≠ 0) (hn : n < 18446744073709551616) : Lib.ctz 64 n < 64 ∧ n.testBit (Lib.ctz 64 n) = true ∧ ∀ j, j < Lib.ctz 64 n → n.testBit j = false := by
  obtain ⟨m, hm, hk⟩ := Lib.ctzFrom_spec 64 n (by omega) hn
  have e : Lib.ctz 64 n = Lib.ctzFrom 64 n := by simp [Lib.ctz, h0]
  rw [e]
  generalize Lib.ctzFrom 64 n = k at *
  refine ⟨hk, ?_, fun j hj => ?_⟩
  · rw [hm, Nat.testBit_two_pow_mul, Nat.sub_self, Nat.testBit_zero]
    simp
  · rw [hm, Nat.testBit_two_pow_mul]
    simp
    omega
theorem hasB_at {x0 x1 x2 x3 : Int} (j : Nat) : (j < 64 → hasB x0 x1 x2 x3 j = x0.toNat.testBit j) ∧ (j < 64 → hasB x0 x1 x2 x3 (64 + j) = x1.toNat.testBit j) ∧ (j < 64 → hasB x0 x1 x2 x3 (128 + j) = x2.toNat.testBit j) ∧ (j < 64 → hasB x0 x1 x2 x3 (192 + j) = x3.toNat.testBit j) := by
  refine ⟨fun h => ?_, fun h => ?_, fun h => ?_, fun h => ?_⟩
  · unfold hasB word4; rw [if_pos (by omega), show j % 64 = j by omega]
  · unfold hasB word4; rw [if_neg (by omega), if_pos (by omega), show (64 + j) % 64 = j by omega]
  · unfold hasB word4; rw [if_neg (by omega), if_neg (by omega), if_pos (by omega), show (128 + j) % 64 = j by omega]
  · unfold hasB word4; rw [if_neg (by omega), if_neg (by omega), if_neg (by omega), show (192 + j) % 64 = j by omega]
theorem zero_bits (j : Nat) : (0 : Nat).testBit j = false := Nat.zero_testBit j
theorem hasB_zero {x0 x1 x2 x3 : Int} (q : Nat) (h : ∀ j, j < 64 → hasB x0 x1 x2 x3 (q + j) = (0 : Nat).testBit j) (i : Nat) (h0 : q ≤ i) (h1 : i < q + 64) : hasB x0 x1 x2 x3 i = false := by
  have := h (i - q) (by omega)
  rw [show q + (i - q) = i by omega, zero_bits] at this
  exact this
/-- The least, as math/bits tells it. -/
theorem least_f {x0 x1 x2 x3 : Int} (h : Words x0 x1 x2 x3) : bytes_Least.f x0 x1 x2 x3 = some (leastB (hasB x0 x1 x2 x3) 0 256) := by
  have w0 := h.w0
  have w1 := h.w1
  have w2 := h.w2
  have w3 := h.w3
  have H := @hasB_at x0 x1 x2 x3
  have hw : ∀ z : Int, 0 ≤ z → z ≤ 1000 → wrap64 z = z := fun z _ _ => by unfold wrap64; omega
  have tz : ∀ x : Int, u64ok x → bits_TrailingZeros64.f x = some ((Lib.ctz 64 x.toNat : Nat) : Int) := fun x hx => by unfold bits_TrailingZeros64.f; rw [if_pos hx]
  unfold bytes_Least.f
  by_cases c0 : x0 ≠ 0
  · obtain ⟨hk, ht, hf⟩ := ctz_bits x0.toNat (by have := w0.1; omega) (by have := w0.2; have := w0.1; omega)
    rw [if_pos c0, tz _ w0, Option.bind_some, hw _ (by omega) (by omega)]
    rw [leastB_eq _ 256 0 (Lib.ctz 64 x0.toNat) (by omega) (by omega) (by rw [(H _).1 hk]; exact ht) (fun j _ hj => by rw [(H j).1 (by omega)]; exact hf j hj)]
  have e0 : x0 = 0 := by omega
  have z0 : ∀ i, i < 64 → hasB x0 x1 x2 x3 i = false := fun i hi => hasB_zero 0 (fun j hj => by rw [Nat.zero_add, (H j).1 hj, e0]; rfl) i (by omega) (by omega)
  rw [if_neg c0]
  by_cases c1 : x1 ≠ 0
  · obtain ⟨hk, ht, hf⟩ := ctz_bits x1.toNat (by have := w1.1; omega) (by have := w1.2; have := w1.1; omega)
    rw [if_pos c1, tz _ w1, Option.bind_some, hw _ (by omega) (by omega)]
    rw [leastB_eq _ 256 0 (64 + Lib.ctz 64 x1.toNat) (by omega) (by omega) (by rw [(H _).2.1 hk]; exact ht) (fun j _ hj => by
      by_cases q : j < 64
      · exact z0 j q
      · have := (H (j - 64)).2.1 (by omega)
        rw [show 64 + (j - 64) = j by omega] at this
        rw [this]; exact hf _ (by omega))]
    rfl
  have e1 : x1 = 0 := by omega
  have z1 : ∀ i, 64 ≤ i → i < 128 → hasB x0 x1 x2 x3 i = false := fun i hi hj => hasB_zero 64 (fun j hj => by rw [(H j).2.1 hj, e1]; rfl) i hi (by omega)
  rw [if_neg c1]
  by_cases c2 : x2 ≠ 0
  · obtain ⟨hk, ht, hf⟩ := ctz_bits x2.toNat (by have := w2.1; omega) (by have := w2.2; have := w2.1; omega)
    rw [if_pos c2, tz _ w2, Option.bind_some, hw _ (by omega) (by omega)]
    rw [leastB_eq _ 256 0 (128 + Lib.ctz 64 x2.toNat) (by omega) (by omega) (by rw [(H _).2.2.1 hk]; exact ht) (fun j _ hj => by
      by_cases q : j < 64
      · exact z0 j q
      · by_cases q2 : j < 128
        · exact z1 j (by omega) q2
        · have := (H (j - 128)).2.2.1 (by omega)
          rw [show 128 + (j - 128) = j by omega] at this
          rw [this]; exact hf _ (by omega))]
    rfl
  have e2 : x2 = 0 := by omega
  have z2 : ∀ i, 128 ≤ i → i < 192 → hasB x0 x1 x2 x3 i = false := fun i hi hj => hasB_zero 128 (fun j hj => by rw [(H j).2.2.1 hj, e2]; rfl) i hi (by omega)
  rw [if_neg c2]
  by_cases c3 : x3 ≠ 0
  · obtain ⟨hk, ht, hf⟩ := ctz_bits x3.toNat (by have := w3.1; omega) (by have := w3.2; have := w3.1; omega)
    rw [if_pos c3, tz _ w3, Option.bind_some, hw _ (by omega) (by omega)]
    rw [leastB_eq _ 256 0 (192 + Lib.ctz 64 x3.toNat) (by omega) (by omega) (by rw [(H _).2.2.2 hk]; exact ht) (fun j _ hj => by
      by_cases q : j < 64
      · exact z0 j q
      · by_cases q2 : j < 128
        · exact z1 j (by omega) q2
        · by_cases q3 : j < 192
          · exact z2 j (by omega) q3
          · have := (H (j - 192)).2.2.2 (by omega)
            rw [show 192 + (j - 192) = j by omega] at this
            rw [this]; exact hf _ (by omega))]
    rfl
  have e3 : x3 = 0 := by omega
  rw [if_neg c3]
  have all : ∀ i, i < 256 → hasB x0 x1 x2 x3 i = false := fun i hi => by
    by_cases q : i < 64
    · exact z0 i q
    · by_cases q2 : i < 128
      · exact z1 i (by omega) q2
      · by_cases q3 : i < 192
        · exact z2 i (by omega) q3
        · exact hasB_zero 192 (fun j hj => by rw [(H j).2.2.2 hj, e3]; rfl) i (by omega) (by omega)
  have none : ∀ d b, b + d = 256 → leastB (hasB x0 x1 x2 x3) b d = -1 := by
    intro d
    induction d with
    | zero => intro b _; rfl
    | succ d ih => intro b hb; simp only [leastB]; rw [if_neg (by rw [all b (by omega)]; decide)]; exact ih (b + 1) (by omega)
  rw [none 256 0 rfl]
/-! #### a byte as it is told -/
def SPC : ByteArray := ⟨#[46, 42, 43, 63, 40, 41, 91, 93, 124, 92, 47]⟩
def CLS : ByteArray := ⟨#[91, 93, 94, 45, 92, 47]⟩
theorem one_spc : ∀ b : Fin 256, topiaryref06_alone.f 40 (b.val : Int) SPC = regex_one.f (b.val : Int) SPC ∧ ((regex_one.f (b.val : Int) SPC).map (·.size)).getD 100 ≤ 4 := by decide +kernel
theorem one_cls : ∀ b : Fin 256, topiaryref06_alone.f 40 (b.val : Int) CLS = regex_one.f (b.val : Int) CLS ∧ ((regex_one.f (b.val : Int) CLS).map (·.size)).getD 100 ≤ 4 := by decide +kernel
theorem one_of {o : Option ByteArray} (h : (o.map (·.size)).getD 100 ≤ 4) : ∃ s, o = some s ∧ s.size ≤ 4 := by
  cases o with
  | none => simp at h
  | some s => exact ⟨s, rfl, by simpa using h⟩
theorem tell_spc (b : Nat) (hb : b < 256) : ∃ s, s.size ≤ 4 ∧ regex_one.f (b : Int) SPC = some s ∧ ∀ k, 40 ≤ k → topiaryref06_alone.f k (b : Int) SPC = some s := by
  obtain ⟨h1, h2⟩ := one_spc ⟨b, hb⟩
  obtain ⟨s, hs, hz⟩ := one_of h2
  exact ⟨s, hz, hs, fun k hk => at_rounds (fun k => topiaryref06_alone.mono _ _ k) hk (h1.trans hs)⟩
theorem tell_cls (b : Nat) (hb : b < 256) : ∃ s, s.size ≤ 4 ∧ regex_one.f (b : Int) CLS = some s ∧ ∀ k, 40 ≤ k → topiaryref06_alone.f k (b : Int) CLS = some s := by
  obtain ⟨h1, h2⟩ := one_cls ⟨b, hb⟩
  obtain ⟨s, hs, hz⟩ := one_of h2
  exact ⟨s, hz, hs, fun k hk => at_rounds (fun k => topiaryref06_alone.mono _ _ k) hk (h1.trans hs)⟩
/-! #### the runs of a set -/
def runL (p : Nat → Bool) : Nat → Nat → Nat
  | _, 0 => 0
  | b, d + 1 => if p b then runL p (b + 1) d + 1 else 0
theorem runL_le (p : Nat → Bool) : ∀ d b, runL p b d ≤ d
  | 0, _ => Nat.le_refl _
  | d + 1, b => by
    simp only [runL]
    split
    · have := runL_le p d (b + 1); omega
    · omega
theorem runL_end (p : Nat → Bool) : ∀ d b, runL p b d < d → p (b + runL p b d) = false
  | 0, _, h => by omega
  | d + 1, b, h => by
    simp only [runL] at h ⊢
    by_cases c : p b = true
    · rw [if_pos c] at h ⊢
      have := runL_end p d (b + 1) (by omega)
      rw [show b + 1 + runL p (b + 1) d = b + (runL p (b + 1) d + 1) by omega] at this
      exact this
    · rw [if_neg c]
      simpa using c
section
variable {x0 x1 x2 x3 : Int} (h : Words x0 x1 x2 x3)
include h
set_option maxRecDepth 100000 in
theorem told_l1 (d : Nat) : ∀ (b n : Nat) (acc : ByteArray) (r : ByteArray), b + n + d = 256 → b < 256 → Ev (fun k => topiaryref06_told.j3 k acc (b : Int) ((n + runL (hasB x0 x1 x2 x3) (b + n) d : Nat) : Int) x0 x1 x2 x3) r → Ev (fun k => topiaryref06_told.l1 k acc (b : Int) (n : Int) x0 x1 x2 x3) r := by
  induction d with
  | zero =>
    intro b n acc r hb hb2 hr
    refine .step (fun k => ?_) hr
    rw [topiaryref06_told.l1, wr64 _ (by omega) (by omega), if_neg (by omega)]
    rfl
  | succ d ih =>
    intro b n acc r hb hb2 hr
    have hh : topiaryref05_Has.f x0 x1 x2 x3 ((b : Int) + (n : Int)) = some (hasB x0 x1 x2 x3 (b + n)) := by
      have := refhas_f h (b + n) (by omega)
      rw [← this]; congr 1
    simp only [runL] at hr
    by_cases c : hasB x0 x1 x2 x3 (b + n) = true
    · rw [if_pos c] at hr
      have := ih b (n + 1) acc r (by omega) hb2 (by rw [show b + (n + 1) = b + n + 1 by omega, show n + 1 + runL (hasB x0 x1 x2 x3) (b + n + 1) d = n + (runL (hasB x0 x1 x2 x3) (b + n + 1) d + 1) by omega]; exact hr)
      refine .step (fun k => ?_) this
      rw [topiaryref06_told.l1, wr64 _ (by omega) (by omega), if_pos (by omega), hh, Option.bind_some, if_pos c, wr64 _ (by omega) (by omega)]
      rfl
    · rw [if_neg c] at hr
      refine .step (fun k => ?_) hr
      rw [topiaryref06_told.l1, wr64 _ (by omega) (by omega), if_pos (by omega), hh, Option.bind_some, if_neg c]
      rfl
set_option maxRecDepth 100000 in
theorem set_l1 (d : Nat) : ∀ (a b : Nat) (acc : ByteArray) (r : ByteArray), b + 1 + d = 256 → Ev (fun k => regex_set.j2 k acc (a : Int) ((b + runL (hasB x0 x1 x2 x3) (b + 1) d : Nat) : Int) x0 x1 x2 x3) r → Ev (fun k => regex_set.l1 k acc (a : Int) (b : Int) x0 x1 x2 x3) r := by
  induction d with
  | zero =>
    intro a b acc r hb hr
    refine .step (fun k => ?_) hr
    rw [regex_set.l1, if_neg (by omega)]
    rfl
  | succ d ih =>
    intro a b acc r hb hr
    have hh : bytes_Has.f x0 x1 x2 x3 (((b : Int) + 1) % 256) = some (hasB x0 x1 x2 x3 (b + 1)) := by
      have := has_f h (b + 1) (by omega)
      rw [← this]; congr 1; omega
    simp only [runL] at hr
    by_cases c : hasB x0 x1 x2 x3 (b + 1) = true
    · rw [if_pos c] at hr
      have := ih a (b + 1) acc r (by omega) (by rw [show b + 1 + runL (hasB x0 x1 x2 x3) (b + 1 + 1) d = b + (runL (hasB x0 x1 x2 x3) (b + 1 + 1) d + 1) by omega]; exact hr)
      refine .step (fun k => ?_) this
      rw [regex_set.l1, if_pos (by omega), wr64 _ (by omega) (by omega), hh, Option.bind_some, if_pos c]
      rfl
    · rw [if_neg c] at hr
      refine .step (fun k => ?_) hr
      rw [regex_set.l1, if_pos (by omega), wr64 _ (by omega) (by omega), hh, Option.bind_some, if_neg c]
      rfl
set_option maxRecDepth 100000 in
/-- The loops agree, from any place on. -/
theorem loops (d : Nat) : ∀ (b : Nat) (acc : ByteArray), b + d = 257 → acc.size + 10 * d ≤ 100000 → ∃ s, Ev (fun k => regex_set.l0 k acc (b : Int) x0 x1 x2 x3) s ∧ Ev (fun k => topiaryref06_told.l0 k acc (b : Int) x0 x1 x2 x3) s ∧ s.size ≤ acc.size + 10 * d + 1 := by
  induction d using Nat.strongRecOn with
  | _ d ih =>
    intro b acc hb ha
    have z1 : (⟨#[93]⟩ : ByteArray).size = 1 := rfl
    have z2 : (⟨#[45]⟩ : ByteArray).size = 1 := rfl
    by_cases hlt' : ¬ b < 256
    · refine ⟨acc ++ (⟨#[93]⟩ : ByteArray), ?_, ?_, by rw [ByteArray.size_append]; omega⟩
      · refine .step (f := fun _ => some (acc ++ (⟨#[93]⟩ : ByteArray))) (fun k => ?_) (.now _)
        rw [regex_set.l0, if_neg (by omega), if_pos (by omega)]
      · refine .step (f := fun _ => some (acc ++ (⟨#[93]⟩ : ByteArray))) (fun k => ?_) (.now _)
        rw [topiaryref06_told.l0, if_neg (by omega), if_pos (by omega)]
    have hlt : b < 256 := by omega
    have hh : bytes_Has.f x0 x1 x2 x3 ((b : Int) % 256) = some (hasB x0 x1 x2 x3 b) := by
      have := has_f h b hlt
      rw [← this]; congr 1; omega
    have told0 : ∀ r, Ev (fun k => topiaryref06_told.j3 k acc (b : Int) ((runL (hasB x0 x1 x2 x3) b (256 - b) : Nat) : Int) x0 x1 x2 x3) r → Ev (fun k => topiaryref06_told.l0 k acc (b : Int) x0 x1 x2 x3) r := by
      intro r hr
      have := told_l1 h (256 - b) b 0 acc r (by omega) hlt (by rw [Nat.zero_add, Nat.add_zero]; exact hr)
      refine .step (fun k => ?_) this
      rw [topiaryref06_told.l0, if_pos (by omega)]
      rfl
    by_cases c' : ¬ hasB x0 x1 x2 x3 b = true
    · have c := c'
      have c0 : hasB x0 x1 x2 x3 b = false := by simpa using c
      obtain ⟨s, h1, h2, h3⟩ := ih (d - 1) (by omega) (b + 1) acc (by omega) (by omega)
      refine ⟨s, ?_, ?_, by omega⟩
      · refine .step (fun k => ?_) h1
        rw [regex_set.l0, if_pos (by omega), hh, Option.bind_some, if_neg c, wr64 _ (by omega) (by omega)]
        rfl
      · refine told0 s ?_
        have e : runL (hasB x0 x1 x2 x3) b (256 - b) = 0 := by
          rw [show 256 - b = (255 - b) + 1 by omega]
          simp only [runL]
          rw [if_neg c]
        rw [e]
        refine .step (f := fun k => topiaryref06_told.j4 k acc (b : Int) 0 x0 x1 x2 x3) (fun k => ?_) (.step (fun k => ?_) h2)
        · rw [topiaryref06_told.j3, if_neg (by omega)]
          rfl
        · rw [topiaryref06_told.j4, if_neg (by omega), if_neg (by omega), wr64 (0 + 1) (by omega) (by omega), wr64 _ (by omega) (by omega)]
          rfl
    · have c : hasB x0 x1 x2 x3 b = true := by simpa using c'
      -- a run of n members
      obtain ⟨n, hn⟩ : ∃ n, n = runL (hasB x0 x1 x2 x3) b (256 - b) := ⟨_, rfl⟩
      have hn1 : n = runL (hasB x0 x1 x2 x3) (b + 1) (255 - b) + 1 := by
        rw [hn, show 256 - b = (255 - b) + 1 by omega]
        simp only [runL]
        rw [if_pos c]
      have hle : n ≤ 256 - b := by rw [hn]; exact runL_le _ _ _
      have hend : b + n < 256 → hasB x0 x1 x2 x3 (b + n) = false := fun hq => by
        have := runL_end (hasB x0 x1 x2 x3) (256 - b) b (by omega)
        rw [← hn] at this
        exact this
      rw [← hn] at told0
      obtain ⟨s1, k1, o1, a1⟩ := tell_cls b hlt
      obtain ⟨s2, k2, o2, a2⟩ := tell_cls (b + n - 1) (by omega)
      -- what the run is told by
      obtain ⟨acc', hacc⟩ : ∃ acc', acc' = (if n = 1 then acc ++ s1 else if n = 2 then acc ++ s1 ++ s2 else acc ++ s1 ++ (⟨#[45]⟩ : ByteArray) ++ s2) := ⟨_, rfl⟩
      have hsz : acc'.size ≤ acc.size + 9 := by
        rw [hacc]
        split
        · rw [ByteArray.size_append]; omega
        · split
          · simp only [ByteArray.size_append]; omega
          · simp only [ByteArray.size_append]; omega
      obtain ⟨s, h1, h2, h3⟩ : ∃ s, Ev (fun k => regex_set.l0 k acc' ((b + n : Nat) : Int) x0 x1 x2 x3) s ∧ Ev (fun k => topiaryref06_told.l0 k acc' ((b + n + 1 : Nat) : Int) x0 x1 x2 x3) s ∧ s.size ≤ acc'.size + 10 * (d - n) + 1 := by
        by_cases q : b + n < 256
        · obtain ⟨s, h1, h2, h3⟩ := ih (d - n - 1) (by omega) (b + n + 1) acc' (by omega) (by omega)
          refine ⟨s, .step (fun k => ?_) h1, h2, by omega⟩
          have hh2 : bytes_Has.f x0 x1 x2 x3 (((b + n : Nat) : Int) % 256) = some (hasB x0 x1 x2 x3 (b + n)) := by
            have := has_f h (b + n) q
            rw [← this]; congr 1; omega
          rw [regex_set.l0, if_pos (by omega), hh2, Option.bind_some, hend q, if_neg (by decide), wr64 _ (by omega) (by omega)]
          rfl
        · refine ⟨acc' ++ (⟨#[93]⟩ : ByteArray), ?_, ?_, by rw [ByteArray.size_append]; omega⟩
          · refine .step (f := fun _ => some (acc' ++ (⟨#[93]⟩ : ByteArray))) (fun k => ?_) (.now _)
            rw [regex_set.l0, if_neg (by omega), if_pos (by omega)]
          · refine .step (f := fun _ => some (acc' ++ (⟨#[93]⟩ : ByteArray))) (fun k => ?_) (.now _)
            rw [topiaryref06_told.l0, if_neg (by omega), if_pos (by omega)]
      refine ⟨s, ?_, told0 s ?_, by omega⟩
      · -- the code
        have j2 : Ev (fun k => regex_set.j2 k acc (b : Int) ((b + n - 1 : Nat) : Int) x0 x1 x2 x3) s := by
          refine .step (fun k => ?_) h1
          have m1 : (b : Int) % 256 = (b : Int) := by omega
          have m2 : ((b + n - 1 : Nat) : Int) % 256 = ((b + n - 1 : Nat) : Int) := by omega
          have o1' : regex_one.f (b : Int) (⟨#[91, 93, 94, 45, 92, 47]⟩ : ByteArray) = some s1 := o1
          have o2' : regex_one.f ((b + n - 1 : Nat) : Int) (⟨#[91, 93, 94, 45, 92, 47]⟩ : ByteArray) = some s2 := o2
          rw [regex_set.j2, m1, m2, o1', o2', Option.bind_some, if_pos (by omega), wr64 ((b : Int) + 1) (by omega) (by omega), Option.bind_some, Option.bind_some, wr64 _ (by omega) (by omega), show ((b + n - 1 : Nat) : Int) + 1 = ((b + n : Nat) : Int) by omega]
          by_cases n1 : n = 1
          · rw [if_neg (by omega), if_neg (by omega), hacc, if_pos n1]
          · by_cases n2 : n = 2
            · rw [if_neg (by omega), if_pos (by omega), if_pos (by rw [ByteArray.size_append]; omega), hacc, if_neg n1, if_pos n2]
            · rw [if_pos (by omega), if_pos (by rw [ByteArray.size_append]; omega), if_pos (by omega), if_pos (by simp only [ByteArray.size_append]; omega), hacc, if_neg n1, if_neg n2]
        have := set_l1 h (255 - b) b b acc s (by omega) (by rw [show b + runL (hasB x0 x1 x2 x3) (b + 1) (255 - b) = b + n - 1 by omega]; exact j2)
        refine .step (fun k => ?_) this
        rw [regex_set.l0, if_pos (by omega), hh, Option.bind_some, if_pos c]
      · -- the document's
        obtain ⟨K, hK⟩ := h2
        refine ⟨K + 50, fun k hk => ?_⟩
        obtain ⟨k, rfl⟩ : ∃ m, k = m + 2 := ⟨k - 2, by omega⟩
        have h2' := hK k (by omega)
        have a1' : topiaryref06_alone.f (k + 1) (b : Int) (⟨#[91, 93, 94, 45, 92, 47]⟩ : ByteArray) = some s1 := a1 _ (by omega)
        have a2' : topiaryref06_alone.f k ((b + n - 1 : Nat) : Int) (⟨#[91, 93, 94, 45, 92, 47]⟩ : ByteArray) = some s2 := a2 _ (by omega)
        have e1 : Aside0 (wrap64 (wrap64 ((b : Int) + (n : Int)) - 1) = ((b + n - 1 : Nat) : Int)) := ⟨by rw [wr64 ((b : Int) + (n : Int)) (by omega) (by omega), wr64 ((b : Int) + (n : Int) - 1) (by omega) (by omega)]; omega⟩
        have e2 : Aside0 (wrap64 ((b : Int) + wrap64 ((n : Int) + 1)) = ((b + n + 1 : Nat) : Int)) := ⟨by rw [wr64 ((n : Int) + 1) (by omega) (by omega), wr64 _ (by omega) (by omega)]; omega⟩
        show topiaryref06_told.j3 (k + 1 + 1) acc (b : Int) (n : Int) x0 x1 x2 x3 = some s
        rw [topiaryref06_told.j3, if_pos (by omega), a1', Option.bind_some, if_pos (by omega), topiaryref06_told.j4, e1.out, e2.out, a2', Option.bind_some, Option.bind_some]
        by_cases n1 : n = 1
        · rw [if_neg (by omega), if_neg (by omega), ← h2', hacc, if_pos n1]
        · by_cases n2 : n = 2
          · rw [if_neg (by omega), if_pos (by omega), if_pos (by rw [ByteArray.size_append]; omega), ← h2', hacc, if_neg n1, if_pos n2]
          · rw [if_pos (by omega), if_pos (by rw [ByteArray.size_append]; omega), if_pos (by omega), if_pos (by simp only [ByteArray.size_append]; omega), ← h2', hacc, if_neg n1, if_neg n2]
end
/-! #### all but the line's end -/
theorem cntB_full (p : Nat → Bool) : ∀ n, cntB p n = n → ∀ j, j < n → p j = true
  | 0, _, j, hj => by omega
  | n + 1, h, j, hj => by
    simp only [cntB] at h
    have hle := cntB_le p n
    have hp : p n = true := by
      cases hq : p n with
      | true => rfl
      | false => rw [hq] at h; simp at h; omega
    rw [hp] at h
    simp at h
    by_cases e : j = n
    · subst e; exact hp
    · exact cntB_full p n h j (by omega)
theorem all_but (p : Nat → Bool) (h : cntB p 256 = 255) (h10 : p 10 = false) : ∀ j, j < 256 → p j = decide (j ≠ 10) := by
  have h2 : cntB (fun j => p j || decide (j = 10)) 256 = 256 := by
    have e1 := cntB_add p 10 246
    have e2 := cntB_add (fun j => p j || decide (j = 10)) 10 246
    have e3 := cntB_add (fun j => p (10 + j)) 1 245
    have e4 := cntB_add (fun j => p (10 + j) || decide (10 + j = 10)) 1 245
    have c1 : cntB (fun j => p j || decide (j = 10)) 10 = cntB p 10 := cntB_congr _ fun j hj => by simp [show j ≠ 10 by omega]
    have c2 : cntB (fun j => p (10 + (1 + j)) || decide (10 + (1 + j) = 10)) 245 = cntB (fun j => p (10 + (1 + j))) 245 := cntB_congr _ fun j hj => by simp [show 10 + (1 + j) ≠ 10 by omega]
    have c3 : cntB (fun j => p (10 + j)) 1 = 0 := by simp [cntB, h10]
    have c4 : cntB (fun j => p (10 + j) || decide (10 + j = 10)) 1 = 1 := by simp [cntB]
    simp only [show (1 + 245 : Nat) = 246 from rfl, show (10 + 246 : Nat) = 256 from rfl] at e1 e2 e3 e4
    omega
  intro j hj
  have := cntB_full _ 256 h2 j hj
  simp only [Bool.or_eq_true, decide_eq_true_eq] at this
  by_cases e : j = 10
  · subst e; rw [h10]; rfl
  · rcases this with hp | hp
    · rw [hp]; simp [e]
    · exact absurd hp e
def N10 : Nat := 18446744073709550591
def NM : Nat := 18446744073709551615
theorem n10_bits : ∀ j : Fin 64, N10.testBit j.val = decide (j.val ≠ 10) := by decide +kernel
theorem nm_bits : ∀ j : Fin 64, NM.testBit j.val = true := by decide +kernel
theorem not_one : (bytes_One.f 10).bind (fun q => bytes_Not.f q.1 q.2.1 q.2.2.1 q.2.2.2) = some ((N10 : Int), (NM : Int), (NM : Int), (NM : Int)) := by decide +kernel
theorem dots_cnt : cntS (N10 : Int) (NM : Int) (NM : Int) (NM : Int) = 255 ∧ hasB (N10 : Int) (NM : Int) (NM : Int) (NM : Int) 10 = false := by decide +kernel
theorem nat_of_bits (x y : Nat) (hx : x < 2 ^ 64) (hy : y < 2 ^ 64) (h : ∀ j, j < 64 → x.testBit j = y.testBit j) : x = y := by
  apply Nat.eq_of_testBit_eq
  intro j
  by_cases hj : j < 64
  · exact h j hj
  · rw [Nat.testBit_lt_two_pow (Nat.lt_of_lt_of_le hx (Nat.pow_le_pow_right (by decide) (by omega))), Nat.testBit_lt_two_pow (Nat.lt_of_lt_of_le hy (Nat.pow_le_pow_right (by decide) (by omega)))]
theorem dots {x0 x1 x2 x3 : Int} (h : Words x0 x1 x2 x3) (hc : cntS x0 x1 x2 x3 = 255) (h10 : hasB x0 x1 x2 x3 10 = false) : x0 = (N10 : Int) ∧ x1 = (NM : Int) ∧ x2 = (NM : Int) ∧ x3 = (NM : Int) := by
  have ab := all_but _ hc h10
  obtain ⟨⟨a0, b0⟩, ⟨a1, b1⟩, ⟨a2, b2⟩, a3, b3⟩ := h
  have H := @hasB_at x0 x1 x2 x3
  refine ⟨?_, ?_, ?_, ?_⟩
  · have := nat_of_bits x0.toNat N10 (by omega) (by decide) (fun j hj => by rw [← (H j).1 hj, ab j (by omega)]; exact (n10_bits ⟨j, hj⟩).symm)
    omega
  · have := nat_of_bits x1.toNat NM (by omega) (by decide) (fun j hj => by rw [← (H j).2.1 hj, ab _ (by omega), nm_bits ⟨j, hj⟩]; simp; omega)
    omega
  · have := nat_of_bits x2.toNat NM (by omega) (by decide) (fun j hj => by rw [← (H j).2.2.1 hj, ab _ (by omega), nm_bits ⟨j, hj⟩]; simp; omega)
    omega
  · have := nat_of_bits x3.toNat NM (by omega) (by decide) (fun j hj => by rw [← (H j).2.2.2 hj, ab _ (by omega), nm_bits ⟨j, hj⟩]; simp; omega)
    omega
theorem leastB_found (p : Nat → Bool) : ∀ (d b : Nat), (∃ j, b ≤ j ∧ j < b + d ∧ p j = true) → ∃ e : Nat, leastB p b d = (e : Int) ∧ e < b + d
  | 0, b, ⟨j, h0, h1, _⟩ => by omega
  | d + 1, b, ⟨j, h0, h1, h2⟩ => by
    simp only [leastB]
    by_cases c : p b = true
    · rw [if_pos c]; exact ⟨b, rfl, by omega⟩
    · rw [if_neg c]
      obtain ⟨e, he, hl⟩ := leastB_found p d (b + 1) ⟨j, by
        by_cases q : b = j
        · subst q; exact absurd h2 c
        · omega, by omega, h2⟩
      exact ⟨e, he, by omega⟩
theorem cntB_pos (p : Nat → Bool) : ∀ n, 0 < cntB p n → ∃ j, j < n ∧ p j = true
  | 0, h => by simp [cntB] at h
  | n + 1, h => by
    cases hq : p n with
    | true => exact ⟨n, by omega, hq⟩
    | false =>
      simp only [cntB, hq, Bool.toNat_false, Nat.add_zero] at h
      obtain ⟨j, hj, hp⟩ := cntB_pos p n h
      exact ⟨j, by omega, hp⟩
/-- A set is told alike. -/
theorem set_told {x0 x1 x2 x3 : Int} (h : Words x0 x1 x2 x3) : ∃ s, s.size ≤ 3000 ∧ Ev (fun k => regex_set.f k x0 x1 x2 x3) s ∧ Ev (fun k => topiaryref06_told.f k x0 x1 x2 x3) s := by
  have hcf := count_f h
  by_cases c1 : cntS x0 x1 x2 x3 = 1
  · obtain ⟨j, hj, hp⟩ := cntB_pos _ 256 (show 0 < cntS x0 x1 x2 x3 by omega)
    obtain ⟨e, he, hl⟩ := leastB_found (hasB x0 x1 x2 x3) 256 0 ⟨j, by omega, by omega, hp⟩
    obtain ⟨s, hz, o1, a1⟩ := tell_spc e (by omega)
    refine ⟨s, by omega, ⟨0, fun k _ => ?_⟩, ⟨300, fun k hk => ?_⟩⟩
    · show regex_set.f k x0 x1 x2 x3 = some s
      unfold regex_set.f
      have o1' : regex_one.f ((e : Int) % 256) (⟨#[46, 42, 43, 63, 40, 41, 91, 93, 124, 92, 47]⟩ : ByteArray) = some s := by rw [show (e : Int) % 256 = (e : Int) by omega]; exact o1
      rw [hcf, Option.bind_some, if_pos (by omega), least_f h, he, Option.bind_some, o1']
      rfl
    · show topiaryref06_told.f k x0 x1 x2 x3 = some s
      have a1' : topiaryref06_alone.f k (e : Int) (⟨#[46, 42, 43, 63, 40, 41, 91, 93, 124, 92, 47]⟩ : ByteArray) = some s := a1 k (by omega)
      unfold topiaryref06_told.f
      rw [refcount_f h k (by omega), Option.bind_some, if_pos (by omega), refleast_f h k (by omega), he, Option.bind_some, a1']
      rfl
  · obtain ⟨s, h1, h2, h3⟩ := loops h 257 0 (⟨#[91]⟩ : ByteArray) rfl (by decide)
    have hz : (⟨#[91]⟩ : ByteArray).size = 1 := rfl
    have setf : ∀ k, regex_set.f k x0 x1 x2 x3 = if (x0 == (N10 : Int) && (x1 == (NM : Int) && (x2 == (NM : Int) && (x3 == (NM : Int))))) = true then some (⟨#[46]⟩ : ByteArray) else regex_set.l0 k (⟨#[91]⟩ : ByteArray) 0 x0 x1 x2 x3 := by
      intro k
      unfold regex_set.f
      rw [hcf, Option.bind_some, if_neg (by omega)]
      have no := not_one
      obtain ⟨q, hq, hn⟩ := Option.bind_eq_some_iff.mp no
      rw [hq, Option.bind_some, hn, Option.bind_some]
    have hten : topiaryref05_Has.f x0 x1 x2 x3 10 = some (hasB x0 x1 x2 x3 10) := refhas_f h 10 (by omega)
    by_cases c2 : cntS x0 x1 x2 x3 = 255 ∧ hasB x0 x1 x2 x3 10 = false
    · obtain ⟨e0, e1, e2, e3⟩ := dots h c2.1 c2.2
      refine ⟨(⟨#[46]⟩ : ByteArray), by decide, ⟨0, fun k _ => ?_⟩, ⟨300, fun k hk => ?_⟩⟩
      · show regex_set.f k x0 x1 x2 x3 = _
        rw [setf, if_pos (by rw [e0, e1, e2, e3]; decide)]
      · show topiaryref06_told.f k x0 x1 x2 x3 = _
        obtain ⟨k, rfl⟩ : ∃ m, k = m + 1 := ⟨k - 1, by omega⟩
        unfold topiaryref06_told.f
        rw [refcount_f h _ (by omega), Option.bind_some, if_neg (by omega), Option.bind_some, if_pos (by omega), hten, Option.bind_some, c2.2, topiaryref06_told.j0, if_pos (by decide)]
    · have hne : ¬ (x0 == (N10 : Int) && (x1 == (NM : Int) && (x2 == (NM : Int) && (x3 == (NM : Int))))) = true := by
        intro he
        simp only [Bool.and_eq_true, beq_iff_eq] at he
        obtain ⟨e0, e1, e2, e3⟩ := he
        subst e0 e1 e2 e3
        exact c2 dots_cnt
      refine ⟨s, by omega, .congr (fun k => ?_) h1, ?_⟩
      · rw [setf, if_neg hne]
        rfl
      · obtain ⟨K, hK⟩ := h2
        refine ⟨K + 301, fun k hk => ?_⟩
        obtain ⟨k, rfl⟩ : ∃ m, k = m + 1 := ⟨k - 1, by omega⟩
        have := hK k (by omega)
        show topiaryref06_told.f (k + 1) x0 x1 x2 x3 = _
        have j0 : topiaryref06_told.j0 (k + 1) false x0 x1 x2 x3 = some s := by
          rw [topiaryref06_told.j0, if_neg (by decide)]
          exact this
        unfold topiaryref06_told.f
        rw [refcount_f h _ (by omega), Option.bind_some, if_neg (by omega), Option.bind_some]
        by_cases c3 : cntS x0 x1 x2 x3 = 255
        · have ht : hasB x0 x1 x2 x3 10 = true := by
            cases hq : hasB x0 x1 x2 x3 10 with
            | true => rfl
            | false => exact absurd ⟨c3, hq⟩ c2
          rw [if_pos (by omega), hten, Option.bind_some, ht]
          exact j0
        · rw [if_neg (by omega)]
          exact j0
/-! #### right rules, and where they begin -/
def wnt (o : Int) : Int := if o = 1 ∨ o = 2 then 0 else if o = 5 ∨ o = 6 ∨ o = 7 then 1 else if o = 3 ∨ o = 4 then 2 else -1
theorem wr {x : Int} (h0 : -9223372036854775808 ≤ x) (h1 : x ≤ 9223372036854775807) : wrap64 x = x := by
  unfold wrap64
  omega
theorem wants_f (o : Int) (k : Nat) : regex_wants.f (k + 3) o = some (wnt o) := by
  simp only [regex_wants.f, regex_wants.j0, regex_wants.j1, wnt]
  by_cases h1 : o = 1
  · simp [h1]
  · by_cases h2 : o = 2
    · simp [h2]
    · by_cases h5 : o = 5
      · simp [h5]
      · by_cases h6 : o = 6
        · simp [h6]
        · by_cases h7 : o = 7
          · simp [h7]
          · by_cases h3 : o = 3
            · simp [h3]
            · by_cases h4 : o = 4
              · simp [h4]
              · simp [h1, h2, h3, h4, h5, h6, h7]
theorem refwants_f (o : Int) (k : Nat) : topiaryref06_Wants.f (k + 3) o = some (wnt o) := by
  simp only [topiaryref06_Wants.f, topiaryref06_Wants.j0, topiaryref06_Wants.j1, wnt]
  by_cases h1 : o = 1
  · simp [h1]
  · by_cases h2 : o = 2
    · simp [h2]
    · by_cases h3 : o = 3
      · simp [h3]
      · by_cases h4 : o = 4
        · simp [h4]
        · by_cases h5 : 5 ≤ o
          · by_cases h7 : o ≤ 7
            · have : o = 5 ∨ o = 6 ∨ o = 7 := by omega
              simp [h1, h2, h3, h4, h5, h7, this]
            · have : ¬ (o = 5 ∨ o = 6 ∨ o = 7) := by omega
              simp [h1, h2, h3, h4, h5, h7, this]
          · have : ¬ (o = 5 ∨ o = 6 ∨ o = 7) := by omega
            simp [h1, h2, h3, h4, h5, this]
theorem wnt_le (o : Int) : -1 ≤ wnt o ∧ wnt o ≤ 2 := by unfold wnt; split <;> (try split) <;> (try split) <;> omega
/-- Is the set empty? -/
def noset (c : S40) : Bool := c.f1.f0 == 0 && (c.f1.f1 == 0 && (c.f1.f2 == 0 && c.f1.f3 == 0))
def rl : List S40 → Int → Bool
  | [], d => d == 1
  | c :: t, d => if wnt c.f0 < 0 then false else if wnt c.f0 > d then false else if noset c == (c.f0 == 1) then false else rl t (d + 1 - wnt c.f0)
theorem rd_mid (pre : List S40) (c : S40) (t : List S40) : rd_T40 (pre ++ c :: t) (pre.length : Int) = c := by
  simp [rd_T40, List.getD]
theorem right_l0 : ∀ (t pre : List S40) (d : Int) (k : Nat), pre.length + t.length ≤ 60 → 0 ≤ d → d ≤ pre.length → t.length + 5 ≤ k →
    regex_Right.l0 k d (pre ++ t) ((pre ++ t).length : Int) (pre.length : Int) = some (rl t d) := by
  intro t
  induction t with
  | nil =>
    intro pre d k h0 h1 h2 h3
    obtain ⟨k, rfl⟩ : ∃ m, k = m + 1 := ⟨k - 1, by omega⟩
    simp only [regex_Right.l0, List.append_nil, rl]
    rw [if_neg (by omega)]
  | cons c t ih =>
    intro pre d k h0 h1 h2 h3
    simp only [List.length_cons] at h0 h3
    obtain ⟨k, rfl⟩ : ∃ m, k = m + 1 := ⟨k - 1, by omega⟩
    obtain ⟨k', rfl⟩ : ∃ m, k = m + 3 := ⟨k - 3, by omega⟩
    have hl : (pre.length : Int) < ((pre ++ c :: t).length : Int) := by simp; omega
    rw [regex_Right.l0]
    rw [if_pos hl, if_pos (by omega), if_pos hl, rd_mid, wants_f, Option.bind_some, rl]
    have hw := wnt_le c.f0
    by_cases e1 : wnt c.f0 < 0
    · rw [if_pos e1, if_pos e1]
    · rw [if_neg e1, if_neg e1]
      by_cases e2 : wnt c.f0 > d
      · rw [if_pos e2, if_pos e2]
      · rw [if_neg e2, if_neg e2]
        have hx : ((c.f0 == 1) != (!(c.f1.f0 == 0) || (!(c.f1.f1 == 0) || (!(c.f1.f2 == 0) || !(c.f1.f3 == 0))))) = (noset c == (c.f0 == 1)) := by
          unfold noset
          generalize (c.f0 == 1) = a
          generalize (c.f1.f0 == 0) = b0
          generalize (c.f1.f1 == 0) = b1
          generalize (c.f1.f2 == 0) = b2
          generalize (c.f1.f3 == 0) = b3
          cases a <;> cases b0 <;> cases b1 <;> cases b2 <;> cases b3 <;> rfl
        rw [hx]
        by_cases e3 : (noset c == (c.f0 == 1)) = true
        · rw [if_pos e3, if_pos e3]
        · rw [if_neg e3, if_neg e3]
          have := ih (pre ++ [c]) (d + 1 - wnt c.f0) (k' + 3) (by simp; omega) (by omega) (by simp; omega) (by omega)
          rw [List.append_assoc, List.singleton_append] at this
          rw [wr (x := 1 - wnt c.f0) (by omega) (by omega), wr (by omega) (by omega), wr (by omega) (by omega), show d + (1 - wnt c.f0) = d + 1 - wnt c.f0 by omega, ← this]
          congr 1
          simp
theorem refright_l0 : ∀ (t pre : List S40) (d : Int) (k : Nat), pre.length + t.length ≤ 60 → 0 ≤ d → d ≤ pre.length → t.length + 5 ≤ k →
    topiaryref06_Right.l0 k (pre ++ t) d (pre.length : Int) = some (rl t d) := by
  intro t
  induction t with
  | nil =>
    intro pre d k h0 h1 h2 h3
    obtain ⟨k, rfl⟩ : ∃ m, k = m + 1 := ⟨k - 1, by omega⟩
    simp only [topiaryref06_Right.l0, List.append_nil, rl]
    rw [if_neg (by omega)]
  | cons c t ih =>
    intro pre d k h0 h1 h2 h3
    simp only [List.length_cons] at h0 h3
    obtain ⟨k, rfl⟩ : ∃ m, k = m + 1 := ⟨k - 1, by omega⟩
    obtain ⟨k', rfl⟩ : ∃ m, k = m + 3 := ⟨k - 3, by omega⟩
    have hl : (pre.length : Int) < ((pre ++ c :: t).length : Int) := by simp; omega
    rw [topiaryref06_Right.l0]
    rw [if_pos hl, if_pos (by omega), rd_mid, refwants_f, Option.bind_some, rl]
    have hw := wnt_le c.f0
    by_cases e1 : wnt c.f0 < 0
    · rw [if_pos e1, if_pos e1]
    · rw [if_neg e1, if_neg e1]
      by_cases e2 : wnt c.f0 > d
      · simp only [gt_iff_lt, show (d < wnt c.f0) = True from eq_true e2, if_true]
      · simp only [gt_iff_lt, show (d < wnt c.f0) = False from eq_false e2, if_false]
        have hx : (((c.f1.f0 == 0) && ((c.f1.f1 == 0) && ((c.f1.f2 == 0) && (c.f1.f3 == 0)))) == (c.f0 == 1)) = (noset c == (c.f0 == 1)) := rfl
        rw [hx]
        by_cases e3 : (noset c == (c.f0 == 1)) = true
        · rw [if_pos e3, if_pos e3]
        · rw [if_neg e3, if_neg e3]
          have := ih (pre ++ [c]) (d + 1 - wnt c.f0) (k' + 3) (by simp; omega) (by omega) (by simp; omega) (by omega)
          rw [List.append_assoc, List.singleton_append] at this
          rw [wr (x := d - wnt c.f0) (by omega) (by omega), wr (by omega) (by omega), wr (by omega) (by omega), show d - wnt c.f0 + 1 = d + 1 - wnt c.f0 by omega, ← this]
          congr 1
          simp
def rightOf (l : List S40) : Bool := if l.length = 0 then false else if 60 < l.length then false else rl l 0
theorem right_f (l : List S40) (k : Nat) : regex_Right.f (k + 100) l = some (rightOf l) := by
  unfold regex_Right.f rightOf
  by_cases h0 : l.length = 0
  · rw [if_pos (by omega), if_pos h0]; simp [regex_Right.j0]
  · rw [if_neg (by omega), if_neg h0]
    by_cases h1 : 60 < l.length
    · rw [if_pos h1]; simp [regex_Right.j0, show ((60 : Int) < (l.length : Int)) by omega]
    · rw [if_neg h1]
      have := right_l0 l [] 0 (k + 99) (by simp; omega) (by omega) (by simp) (by omega)
      simp only [List.nil_append, List.length_nil] at this
      simp [regex_Right.j0, show ¬ ((60 : Int) < (l.length : Int)) by omega]
      exact this
theorem refright_f (l : List S40) (k : Nat) : topiaryref06_Right.f (k + 100) l = some (rightOf l) := by
  unfold topiaryref06_Right.f rightOf
  by_cases h0 : l.length = 0
  · rw [if_pos (by omega), if_pos h0]; simp [topiaryref06_Right.j0]
  · rw [if_neg (by omega), if_neg h0]
    by_cases h1 : 60 < l.length
    · rw [if_pos h1]; simp [topiaryref06_Right.j0, show ((60 : Int) < (l.length : Int)) by omega]
    · rw [if_neg h1]
      have := refright_l0 l [] 0 (k + 99) (by simp; omega) (by omega) (by simp) (by omega)
      simp only [List.nil_append, List.length_nil] at this
      simp [topiaryref06_Right.j0, show ¬ ((60 : Int) < (l.length : Int)) by omega]
      exact this
/-! #### where a rule begins -/
/-- The rule that ends at e begins at s: a way of From's loop. -/
def Froms (l : List S40) (e s : Int) : Prop := s ≤ e ∧ ∀ need r, 1 ≤ need → need + e ≤ 1000 → Ev (fun k => topiaryref06_From.l0 k l (need - 1) (s - 1)) r → Ev (fun k => topiaryref06_From.l0 k l need e) r
theorem froms_step (l : List S40) (e : Int) (he0 : 0 ≤ e) (he1 : e < (l.length : Int)) (hl : l.length ≤ 60) (w : Int) (hw : wnt (rd_T40 l e).f0 = w) (hw0 : 0 ≤ w) (need : Int) (r : Int) (h1 : 1 ≤ need) (h2 : need + e ≤ 1000)
    (h : Ev (fun k => topiaryref06_From.l0 k l (need - 1 + w) (e - 1)) r) : Ev (fun k => topiaryref06_From.l0 k l need e) r := by
  obtain ⟨K, hK⟩ := h
  refine ⟨K + 4, fun k hk => ?_⟩
  obtain ⟨k, rfl⟩ : ∃ m, k = m + 4 := ⟨k - 4, by omega⟩
  have hw2 := wnt_le (rd_T40 l e).f0
  show topiaryref06_From.l0 (k + 3 + 1) l need e = some r
  rw [topiaryref06_From.l0]
  rw [if_pos (by omega), if_pos he0, if_pos he1, refwants_f, Option.bind_some, hw, wr (x := need - 1) (by omega) (by omega), wr (by omega) (by omega), wr (by omega) (by omega)]
  exact hK _ (by omega)
theorem froms0 (l : List S40) (e : Int) (he0 : 0 ≤ e) (he1 : e < (l.length : Int)) (hl : l.length ≤ 60) (hw : wnt (rd_T40 l e).f0 = 0) : Froms l e e := by
  refine ⟨Int.le_refl _, fun need r h1 h2 h => ?_⟩
  refine froms_step l e he0 he1 hl 0 hw (by omega) need r h1 h2 ?_
  rwa [Int.add_zero]
theorem froms1 (l : List S40) (e s : Int) (he0 : 0 ≤ e) (he1 : e < (l.length : Int)) (hl : l.length ≤ 60) (hw : wnt (rd_T40 l e).f0 = 1) (hs : Froms l (e - 1) s) : Froms l e s := by
  refine ⟨by have := hs.1; omega, fun need r h1 h2 h => ?_⟩
  refine froms_step l e he0 he1 hl 1 hw (by omega) need r h1 h2 ?_
  rw [show need - 1 + 1 = need by omega]
  exact hs.2 need r h1 (by omega) h
theorem froms2 (l : List S40) (e s t : Int) (he0 : 0 ≤ e) (he1 : e < (l.length : Int)) (hl : l.length ≤ 60) (hw : wnt (rd_T40 l e).f0 = 2) (hs : Froms l (e - 1) s) (ht : Froms l (s - 1) t) : Froms l e t := by
  have a1 := hs.1
  have a2 := ht.1
  refine ⟨by omega, fun need r h1 h2 h => ?_⟩
  refine froms_step l e he0 he1 hl 2 hw (by omega) need r h1 h2 ?_
  refine hs.2 _ r (by omega) (by omega) ?_
  rw [show need - 1 + 2 - 1 = need by omega]
  exact ht.2 need r h1 (by omega) h
theorem froms_from (l : List S40) (e s : Int) (he1 : e < (l.length : Int)) (hl : l.length ≤ 60) (hs0 : 0 ≤ s) (hs : Froms l e s) : Ev (fun k => topiaryref06_From.f k l e) s := by
  have a1 := hs.1
  refine hs.2 1 s (by omega) (by omega) ⟨1, fun k hk => ?_⟩
  obtain ⟨k, rfl⟩ : ∃ m, k = m + 1 := ⟨k - 1, by omega⟩
  simp only [topiaryref06_From.l0]
  rw [if_neg (by omega), wr (by omega) (by omega), show s - 1 + 1 = s by omega]
/-! #### the stack of texts -/
def Wok (c : S40) : Prop := Words c.f1.f0 c.f1.f1 c.f1.f2 c.f1.f3
def TextE (l : List S40) (e : Int) (s : ByteArray) : Prop := Ev (fun k => topiaryref06_text.f k l e) s
def powr (l : List S40) (e : Int) : Int := if (rd_T40 l e).f0 = 4 then 1 else if (rd_T40 l e).f0 = 3 then 2 else 3
theorem power_f (l : List S40) (e : Int) (h0 : 0 ≤ e) (h1 : e < (l.length : Int)) : topiaryref06_Power.f l e = some (powr l e) := by
  unfold topiaryref06_Power.f powr
  simp [h0, h1]
  split
  · simp
  · split <;> simp
/-- What reads so much as a text where so much is wanted. -/
def inS (s : ByteArray) (q p : Int) : ByteArray := if q < p then (⟨#[40]⟩ : ByteArray) ++ s ++ (⟨#[41]⟩ : ByteArray) else s
theorem inS_size (s : ByteArray) (q p : Int) : (inS s q p).size ≤ s.size + 2 := by
  unfold inS
  have z1 : (⟨#[40]⟩ : ByteArray).size = 1 := rfl
  have z2 : (⟨#[41]⟩ : ByteArray).size = 1 := rfl
  split
  · simp only [ByteArray.size_append]; omega
  · omega
theorem in_f (s : ByteArray) (q p : Int) (h : s.size ≤ 1000000) : regex_shown_in.f s q p = some (inS s q p) := by
  have z1 : (⟨#[40]⟩ : ByteArray).size = 1 := rfl
  unfold regex_shown_in.f inS
  by_cases c : q < p
  · rw [if_pos c, if_pos (by omega), if_pos (by rw [ByteArray.size_append]; omega), if_pos c]
  · rw [if_neg c, if_neg c]
theorem catB_f (a b : ByteArray) (ha : a.size ≤ 10000000) (hb : b.size ≤ 10000000) : catB a b = some (a ++ b) := by
  unfold catB
  rw [if_pos ⟨by omega, by omega⟩]
theorem part_f (l : List S40) (e p : Int) (s : ByteArray) (h0 : 0 ≤ e) (h1 : e < (l.length : Int)) (hz : s.size ≤ 1000000) (h : TextE l e s) : Ev (fun k => topiaryref06_part.f k l e p) (inS s (powr l e) p) := by
  obtain ⟨K, hK⟩ := h
  refine ⟨K + 1, fun k hk => ?_⟩
  obtain ⟨k, rfl⟩ : ∃ m, k = m + 1 := ⟨k - 1, by omega⟩
  have := hK k (by omega)
  simp only at this
  have z1 : (⟨#[40]⟩ : ByteArray).size = 1 := rfl
  have z2 : (⟨#[41]⟩ : ByteArray).size = 1 := rfl
  show topiaryref06_part.f (k + 1) l e p = _
  rw [topiaryref06_part.f, this, Option.bind_some, power_f l e h0 h1, Option.bind_some]
  unfold inS
  by_cases c : powr l e < p
  · rw [if_pos c, if_pos c, catB_f _ _ (by omega) (by omega), Option.bind_some, catB_f _ _ (by rw [ByteArray.size_append]; omega) (by omega)]
  · rw [if_neg c, if_neg c]
/-- The stack (its top first) of rules that end one behind the other, the last one at e. -/
inductive Inv (l : List S40) : List S43 → Int → Prop
  | nil : Inv l [] (-1)
  | cons {st : List S43} {x : S43} {s e : Int} : 0 ≤ s → Inv l st (s - 1) → Froms l e s → TextE l e x.f0 → x.f1 = powr l e → (x.f0.size : Int) ≤ 4000 * (e - s + 1) → Inv l (x :: st) e
theorem Inv.inv {l : List S40} {r : List S43} {e : Int} (h : Inv l r e) : r = [] ∨ ∃ st x s, r = x :: st ∧ 0 ≤ s ∧ Inv l st (s - 1) ∧ Froms l e s ∧ TextE l e x.f0 ∧ x.f1 = powr l e ∧ (x.f0.size : Int) ≤ 4000 * (e - s + 1) := by
  cases h with
  | nil => exact .inl rfl
  | cons h1 h2 h3 h4 h5 h6 => exact .inr ⟨_, _, _, rfl, h1, h2, h3, h4, h5, h6⟩
theorem text_open (l : List S40) (e : Int) (h0 : 0 ≤ e) (h1 : e < (l.length : Int)) (hl : l.length ≤ 60) (f : Nat → Option ByteArray) (s : ByteArray) (hf : Ev f s)
    (hk : ∀ k, topiaryref06_text.f (k + 1) l e = f k) : TextE l e s := .step hk hf
theorem emp_get (st : List S43) (a b : S43) : (st ++ [a] ++ [b]).getD ((st ++ [a] ++ [b]).length - 2) z43 = a ∧ (st ++ [a] ++ [b]).getD ((st ++ [a] ++ [b]).length - 1) z43 = b := by
  constructor <;> simp [List.getD_eq_getElem?_getD]
theorem show_l0 (l : List S40) (hl : l.length ≤ 60) (hW : ∀ c ∈ l, Wok c) : ∀ (t pre : List S40) (r : List S43), pre ++ t = l → Inv l r ((pre.length : Int) - 1) → r.length ≤ pre.length → rl t (r.length : Int) = true →
    ∃ s, TextE l ((l.length : Int) - 1) s ∧ Ev (fun k => regex_Show.l0 k l r.reverse (pre.length : Int)) (s, 0) := by
  intro t
  induction t with
  | nil =>
    intro pre r e hi hr h
    simp only [List.append_nil] at e
    subst e
    simp only [rl, beq_iff_eq] at h
    rcases hi.inv with rfl | ⟨st, x, s, rfl, hs, hi, hf, ht, hp, hz⟩
    · simp at h
    · have : st = [] := by cases st with | nil => rfl | cons _ _ => simp at h; omega
      subst this
      refine ⟨x.f0, ht, 1, fun k hk => ?_⟩
      obtain ⟨k, rfl⟩ : ∃ m, k = m + 1 := ⟨k - 1, by omega⟩
      simp only [regex_Show.l0]
      rw [if_neg (by omega)]
      simp
  | cons c t ih =>
    intro pre r e hi hr h
    have hlen : pre.length + (t.length + 1) = l.length := by rw [← e]; simp
    have hc : rd_T40 l (pre.length : Int) = c := by rw [← e]; exact rd_mid pre c t
    have hmem : c ∈ l := by rw [← e]; simp
    have he0 : (0 : Int) ≤ (pre.length : Int) := by omega
    have he1 : (pre.length : Int) < (l.length : Int) := by omega
    have hl2 : (l.length : Int) ≤ 1000000 := by omega
    simp only [rl] at h
    have hw := wnt_le c.f0
    by_cases e1 : wnt c.f0 < 0
    · rw [if_pos e1] at h; cases h
    rw [if_neg e1] at h
    by_cases e2 : wnt c.f0 > (r.length : Int)
    · rw [if_pos e2] at h; cases h
    rw [if_neg e2] at h
    by_cases e3 : (noset c == (c.f0 == 1)) = true
    · rw [if_pos e3] at h; cases h
    rw [if_neg e3] at h
    have key : ∀ r', (r'.length : Int) = (r.length : Int) + 1 - wnt c.f0 → Inv l r' (pre.length : Int) → Ev (fun k => regex_Show.stp k r.reverse c) r'.reverse →
        ∃ s, TextE l ((l.length : Int) - 1) s ∧ Ev (fun k => regex_Show.l0 k l r.reverse (pre.length : Int)) (s, 0) := by
      intro r' h1 h2 h3
      obtain ⟨s, hs, hE⟩ := ih (pre ++ [c]) r' (by rw [List.append_assoc, List.singleton_append]; exact e) (by rw [List.length_append, List.length_singleton]; rw [show ((pre.length + 1 : Nat) : Int) - 1 = (pre.length : Int) by omega]; exact h2) (by simp; omega) (by rw [h1]; exact h)
      refine ⟨s, hs, .step (f := fun k => (regex_Show.stp k r.reverse c).bind fun st' => regex_Show.l0 k l st' ((pre.length : Int) + 1)) (fun k => ?_) (.bind h3 ?_)⟩
      · rw [regex_Show.l0, if_pos he1, if_pos ⟨by omega, by simp; omega⟩, hc]
      · rw [List.length_append, List.length_singleton, show ((pre.length + 1 : Nat) : Int) = (pre.length : Int) + 1 by omega] at hE
        exact hE
    have hcond : 0 ≤ (pre.length : Int) ∧ (pre.length : Int) < (l.length : Int) ∧ (l.length : Int) ≤ 1000000 := ⟨he0, he1, hl2⟩
    have hf0 : ∀ o, wnt o = 0 → o = 1 ∨ o = 2 := by intro o ho; unfold wnt at ho; split at ho <;> (try split at ho) <;> (try split at ho) <;> omega
    have hf1 : ∀ o, wnt o = 1 → o = 5 ∨ o = 6 ∨ o = 7 := by intro o ho; unfold wnt at ho; split at ho <;> (try split at ho) <;> (try split at ho) <;> omega
    have hf2 : ∀ o, wnt o = 2 → o = 3 ∨ o = 4 := by intro o ho; unfold wnt at ho; split at ho <;> (try split at ho) <;> (try split at ho) <;> omega
    have hcases : wnt c.f0 = 0 ∨ wnt c.f0 = 1 ∨ wnt c.f0 = 2 := by omega
    rcases hcases with w0 | w1 | w2
    · have fr : Froms l (pre.length : Int) (pre.length : Int) := froms0 l _ he0 he1 hl (by rw [hc]; exact w0)
      rcases hf0 _ w0 with o | o
      · obtain ⟨s, hz, k1, k2⟩ := set_told (hW c hmem)
        refine key ((⟨s, 3⟩ : S43) :: r) (by simp; omega) (.cons he0 hi fr (text_open l _ he0 he1 hl _ s k2 (fun k => ?_)) (by unfold powr; rw [hc, o]; rfl) (by show (s.size : Int) ≤ _; omega)) ?_
        · rw [topiaryref06_text.f, if_pos hcond, hc, if_pos o]
        · refine .congr (f := fun k => (regex_set.f k c.f1.f0 c.f1.f1 c.f1.f2 c.f1.f3).bind fun s => some (r.reverse ++ [(⟨s, 3⟩ : S43)])) (fun k => ?_) (.bind k1 ?_)
          · show regex_Show.stp k r.reverse c = _
            unfold regex_Show.stp; rw [if_pos o]
          · rw [List.reverse_cons]; exact .now _
      · refine key ((⟨⟨#[40, 41]⟩, 3⟩ : S43) :: r) (by simp; omega) (.cons he0 hi fr (text_open l _ he0 he1 hl (fun _ => some ⟨#[40, 41]⟩) _ (.now _) (fun k => ?_)) (by unfold powr; rw [hc, o]; rfl) (by show (((⟨#[40, 41]⟩ : ByteArray).size : Nat) : Int) ≤ _; rw [show (⟨#[40, 41]⟩ : ByteArray).size = 2 from rfl]; omega)) ?_
        · rw [topiaryref06_text.f, if_pos hcond, hc, if_neg (by omega), if_pos o]
        · refine .congr (f := fun _ => some (r.reverse ++ [(⟨⟨#[40, 41]⟩, 3⟩ : S43)])) (fun k => ?_) (by rw [List.reverse_cons]; exact .now _)
          show regex_Show.stp k r.reverse c = _
          unfold regex_Show.stp; rw [if_neg (by omega), if_pos o]
    · rcases hi.inv with rfl | ⟨st, x, s, rfl, hs, hi, hf, ht, hp, hz⟩
      · simp at e2; omega
      have hsp := hf.1
      have fr : Froms l (pre.length : Int) s := froms1 l _ s he0 he1 hl (by rw [hc]; exact w1) hf
      have ho := hf1 _ w1
      have hxz : x.f0.size ≤ 1000000 := by omega
      have hin := inS_size x.f0 x.f1 3
      have P := part_f l ((pre.length : Int) - 1) 3 x.f0 (by omega) (by omega) hxz ht
      rw [← hp] at P
      have zs : (regex_Show.sym c.f0).size = 1 := by unfold regex_Show.sym; rcases ho with h | h | h <;> rw [h] <;> rfl
      refine key ((⟨inS x.f0 x.f1 3 ++ regex_Show.sym c.f0, 3⟩ : S43) :: st) (by simp; omega) (.cons hs hi fr (text_open l _ he0 he1 hl (fun k => (topiaryref06_part.f k l ((pre.length : Int) - 1) 3).bind fun a => catB a (regex_Show.sym c.f0)) _ (.bind P ⟨0, fun _ _ => catB_f _ _ (by omega) (by omega)⟩) (fun k => ?_)) ?_ (by show (((inS x.f0 x.f1 3 ++ regex_Show.sym c.f0).size : Nat) : Int) ≤ _; rw [ByteArray.size_append]; omega)) ?_
      · rw [topiaryref06_text.f, if_pos hcond, hc]
        unfold regex_Show.sym
        rcases ho with o | o | o
        · rw [if_neg (by omega), if_neg (by omega), if_neg (by omega), if_neg (by omega), if_pos o, if_pos o]
        · rw [if_neg (by omega), if_neg (by omega), if_neg (by omega), if_neg (by omega), if_neg (by omega), if_pos o, if_neg (by omega), if_pos o]
        · rw [if_neg (by omega), if_neg (by omega), if_neg (by omega), if_neg (by omega), if_neg (by omega), if_neg (by omega), if_neg (by omega), if_neg (by omega)]
      · show (3 : Int) = powr l _
        unfold powr; rw [hc, if_neg (by omega), if_neg (by omega)]
      · refine ⟨0, fun k _ => ?_⟩
        show regex_Show.stp k (x :: st).reverse c = _
        unfold regex_Show.stp
        have hg : (x :: st).reverse.getD ((x :: st).reverse.length - 1) z43 = x := by simp [List.getD_eq_getElem?_getD]
        rw [if_neg (by omega), if_neg (by omega), if_neg (by omega), if_neg (by omega), if_pos (by omega), if_pos (by simp), hg, in_f _ _ _ hxz, Option.bind_some, catB_f _ _ (by omega) (by omega), Option.bind_some]
        simp
    · rcases hi.inv with rfl | ⟨st, y, s, rfl, hs, hi, hf, ht, hp, hz⟩
      · simp at e2; omega
      rcases hi.inv with rfl | ⟨st', x, s', rfl, hs', hi', hf', ht', hp', hz'⟩
      · simp at e2; omega
      have hsp := hf.1
      have hsp' := hf'.1
      have fr : Froms l (pre.length : Int) s' := froms2 l _ s s' he0 he1 hl (by rw [hc]; exact w2) hf hf'
      have hyz : y.f0.size ≤ 1000000 := by omega
      have hxz : x.f0.size ≤ 1000000 := by omega
      have hF := froms_from l ((pre.length : Int) - 1) s (by omega) hl hs hf
      obtain ⟨g2, g1⟩ := emp_get st'.reverse x y
      have hrev : (y :: x :: st').reverse = st'.reverse ++ [x] ++ [y] := by simp
      have zb : (⟨#[124]⟩ : ByteArray).size = 1 := rfl
      rcases hf2 _ w2 with o | o
      · have hin := inS_size x.f0 x.f1 2
        have hin2 := inS_size y.f0 y.f1 3
        have P1 := part_f l (s - 1) 2 x.f0 (by omega) (by omega) hxz ht'
        have P2 := part_f l ((pre.length : Int) - 1) 3 y.f0 (by omega) (by omega) hyz ht
        rw [← hp'] at P1
        rw [← hp] at P2
        refine key ((⟨inS x.f0 x.f1 2 ++ inS y.f0 y.f1 3, 2⟩ : S43) :: st') (by simp; omega) (.cons hs' hi' fr (text_open l _ he0 he1 hl (fun k => (topiaryref06_From.f k l ((pre.length : Int) - 1)).bind fun f => if 0 ≤ f ∧ f ≤ 1000000 then ((topiaryref06_part.f k l (f - 1) 2).bind fun a => (topiaryref06_part.f k l ((pre.length : Int) - 1) 3).bind fun b => catB a b) else none) _ (.bind hF (.congr (fun k => if_pos ⟨by omega, by omega⟩) (.bind P1 (.bind P2 ⟨0, fun _ _ => catB_f _ _ (by omega) (by omega)⟩)))) (fun k => ?_)) ?_ (by show (((inS x.f0 x.f1 2 ++ inS y.f0 y.f1 3).size : Nat) : Int) ≤ _; rw [ByteArray.size_append]; omega)) ?_
        · rw [topiaryref06_text.f, if_pos hcond, hc, if_neg (by omega), if_neg (by omega), if_pos o]
        · show (2 : Int) = powr l _
          unfold powr; rw [hc, if_neg (by omega), if_pos o]
        · refine ⟨0, fun k _ => ?_⟩
          show regex_Show.stp k (y :: x :: st').reverse c = _
          rw [hrev]
          unfold regex_Show.stp
          rw [if_neg (by omega), if_neg (by omega), if_pos o, if_pos (by simp), g2, g1, in_f _ _ _ hxz, Option.bind_some, in_f _ _ _ hyz, Option.bind_some, catB_f _ _ (by omega) (by omega), Option.bind_some]
          simp
      · have hin := inS_size x.f0 x.f1 1
        have hin2 := inS_size y.f0 y.f1 2
        have P1 := part_f l (s - 1) 1 x.f0 (by omega) (by omega) hxz ht'
        have P2 := part_f l ((pre.length : Int) - 1) 2 y.f0 (by omega) (by omega) hyz ht
        rw [← hp'] at P1
        rw [← hp] at P2
        refine key ((⟨inS x.f0 x.f1 1 ++ (⟨#[124]⟩ : ByteArray) ++ inS y.f0 y.f1 2, 1⟩ : S43) :: st') (by simp; omega) (.cons hs' hi' fr (text_open l _ he0 he1 hl (fun k => (topiaryref06_From.f k l ((pre.length : Int) - 1)).bind fun f => if 0 ≤ f ∧ f ≤ 1000000 then ((topiaryref06_part.f k l (f - 1) 1).bind fun a => (catB a ⟨#[124]⟩).bind fun a2 => (topiaryref06_part.f k l ((pre.length : Int) - 1) 2).bind fun b => catB a2 b) else none) _ (.bind hF (.congr (fun k => if_pos ⟨by omega, by omega⟩) (.bind P1 (.bind (a := inS x.f0 x.f1 1 ++ (⟨#[124]⟩ : ByteArray)) ⟨0, fun _ _ => catB_f _ _ (by omega) (by omega)⟩ (.bind P2 ⟨0, fun _ _ => catB_f _ _ (by rw [ByteArray.size_append]; omega) (by omega)⟩))))) (fun k => ?_)) ?_ (by show (((inS x.f0 x.f1 1 ++ (⟨#[124]⟩ : ByteArray) ++ inS y.f0 y.f1 2).size : Nat) : Int) ≤ _; simp only [ByteArray.size_append]; omega)) ?_
        · rw [topiaryref06_text.f, if_pos hcond, hc, if_neg (by omega), if_neg (by omega), if_neg (by omega), if_pos o]
        · show (1 : Int) = powr l _
          unfold powr; rw [hc, if_pos o]
        · refine ⟨0, fun k _ => ?_⟩
          show regex_Show.stp k (y :: x :: st').reverse c = _
          rw [hrev]
          unfold regex_Show.stp
          rw [if_neg (by omega), if_neg (by omega), if_neg (by omega), if_pos o, if_pos (by simp), g2, g1, in_f _ _ _ hxz, Option.bind_some, catB_f _ _ (by omega) (by omega), Option.bind_some, in_f _ _ _ hyz, Option.bind_some, catB_f _ _ (by rw [ByteArray.size_append]; omega) (by omega), Option.bind_some]
          simp
theorem wakes_f : ∃ k, topiarylaw06_wakes.f k = some true := ⟨200, by decide +kernel⟩
theorem law (l0 : List S40) (hW : ∀ c ∈ l0, Wok c) (z : l0.length * 40 ≤ 140737488351232) : ∃ k, topiarylaw06_RegexShows.f k l0 = some true := by
  obtain ⟨k0, hk0⟩ := wakes_f
  have hwk : ∀ k, k0 ≤ k → topiarylaw06_wakes.f k = some true := fun k hk => at_rounds (fun k => topiarylaw06_wakes.mono k) hk hk0
  have hcp : topiarylaw06_copied.f l0 = some l0 := by
    simp only [topiarylaw06_copied.f, Option.bind_some, List.length_nil, List.nil_append]
    rw [if_pos (by omega)]
  have fin : ∀ K (r : ByteArray × Int), (∀ k, K ≤ k → regex_Show.f (k + 100) l0 = some r) → (∀ k, K ≤ k → topiaryref06_Show.f (k + 100) l0 = some r) → ∃ k, topiarylaw06_RegexShows.f k l0 = some true := by
    intro K r h1 h2
    refine ⟨k0 + K + 100, ?_⟩
    unfold topiarylaw06_RegexShows.f
    rw [hcp, Option.bind_some, h1 _ (by omega), Option.bind_some, h2 _ (by omega), Option.bind_some, hwk _ (by omega), Option.bind_some, if_pos rfl, if_pos rfl]
    simp
  by_cases hr : rightOf l0 = true
  · have hlen : l0.length ≤ 60 := by
      by_cases h : l0.length ≤ 60
      · exact h
      · have : rightOf l0 = false := by unfold rightOf; rw [if_neg (by omega), if_pos (by omega)]
        rw [this] at hr; cases hr
    have hrl : rl l0 0 = true := by
      unfold rightOf at hr
      by_cases h0 : l0.length = 0
      · rw [if_pos h0] at hr; cases hr
      · rw [if_neg h0, if_neg (by omega)] at hr; exact hr
    obtain ⟨s, ⟨K1, h1⟩, K2, h2⟩ := show_l0 l0 hlen hW l0 [] [] rfl (by simpa using Inv.nil) (by simp) (by simpa using hrl)
    refine fin (K1 + K2) (s, 0) (fun k hk => ?_) (fun k hk => ?_)
    · have := h2 (k + 100) (by omega)
      simp only [List.reverse_nil, List.length_nil] at this
      unfold regex_Show.f
      rw [right_f, hr, Option.bind_some, if_pos rfl]
      exact this
    · have := h1 (k + 100) (by omega)
      simp only at this
      unfold topiaryref06_Show.f
      rw [refright_f, hr, Option.bind_some, if_pos rfl, wr (by omega) (by omega), this, Option.bind_some]
  · have hr' : rightOf l0 = false := by simpa using hr
    refine fin 0 (⟨#[]⟩, 1) (fun k hk => ?_) (fun k hk => ?_)
    · unfold regex_Show.f
      rw [right_f, hr', Option.bind_some, if_neg (by decide)]
    · unfold topiaryref06_Show.f
      rw [refright_f, hr', Option.bind_some, if_neg (by decide)]

end Go.Proofs.YtkabcjchgaokoaaDoor.Pure
