/- Proved here: laws of numbers and bits: how many bits of a number are one, as math/bits' way of counting tells it; what a run's mask takes away; no condition but those that each theorem writes out. -/
import Derived.Test.YtbmddfkmlhmbgaaHand
import Derived.Test.YtbmddfkmlhmbgaaWMore
namespace Go.Proofs.Ytbmddfkmlhmbgaa.Pop
open Go.RowKit Go.Proofs.Ytbmddfkmlhmbgaa.Hand Go.Proofs.YtbmddfkmlhmbgaaW.PrintWords Go.Proofs.YtbmddfkmlhmbgaaW.PrintMore
set_option linter.unusedVariables false
set_option linter.unusedSimpArgs false
/-- The number of a list of bytes, the lowest first. -/
def val : List Nat → Nat
  | [] => 0
  | b :: r => b + 256 * val r
def bytes (l : List Nat) : Prop := ∀ b ∈ l, b < 256
theorem bytes_cons {b : Nat} {r : List Nat} (h : bytes (b :: r)) : b < 256 ∧ bytes r := ⟨h b List.mem_cons_self, fun x hx => h x (List.mem_cons_of_mem _ hx)⟩
theorem and_digit (b c y z : Nat) (hb : b < 256) (hc : c < 256) : (b + 256 * y) &&& (c + 256 * z) = (b &&& c) + 256 * (y &&& z) := by
  have hbc : b &&& c < 2 ^ 8 := Nat.and_lt_two_pow _ hc
  apply Nat.eq_of_testBit_eq
  intro i
  rw [Nat.add_comm b, Nat.add_comm c, Nat.add_comm (b &&& c), show (256 : Nat) = 2 ^ 8 from rfl, Nat.testBit_and, Nat.testBit_two_pow_mul_add _ (show b < 2 ^ 8 from hb), Nat.testBit_two_pow_mul_add _ (show c < 2 ^ 8 from hc), Nat.testBit_two_pow_mul_add _ hbc]
  by_cases h : i < 8
  · rw [if_pos h, if_pos h, if_pos h, Nat.testBit_and]
  · rw [if_neg h, if_neg h, if_neg h, Nat.testBit_and]
theorem val_and (c : Nat) (hc : c < 256) : ∀ l : List Nat, bytes l → val l &&& val (List.replicate l.length c) = val (l.map fun b => b &&& c)
  | [], _ => by simp [val]
  | b :: r, h => by
    obtain ⟨h1, h2⟩ := bytes_cons h
    rw [List.length_cons, List.replicate_succ, List.map_cons, val, val, val, and_digit _ _ _ _ h1 hc, val_and c hc r h2]
/-- A shift by s places, behind a mask that takes what came in from above. -/
theorem val_shift1 : ∀ l : List Nat, bytes l → val l / 2 &&& val (List.replicate l.length 85) = val (l.map fun b => b / 2 &&& 85)
  | [], _ => rfl
  | b :: r, h => by
    obtain ⟨h1, h2⟩ := bytes_cons h
    rw [List.length_cons, List.replicate_succ, List.map_cons, val, val, val, show (b + 256 * val r) / 2 = (b / 2 + 128 * (val r % 2)) + 256 * (val r / 2) from by omega, and_digit _ _ _ _ (by omega) (by decide), val_shift1 r h2]
    congr 1
    have key : ∀ b : Fin 256, ∀ t : Fin 2, (b.val / 2 + 128 * t.val) &&& 85 = b.val / 2 &&& 85 := by decide +kernel
    exact key ⟨b, h1⟩ ⟨val r % 2, by omega⟩
theorem val_shift2 : ∀ l : List Nat, bytes l → val l / 4 &&& val (List.replicate l.length 51) = val (l.map fun b => b / 4 &&& 51)
  | [], _ => rfl
  | b :: r, h => by
    obtain ⟨h1, h2⟩ := bytes_cons h
    rw [List.length_cons, List.replicate_succ, List.map_cons, val, val, val, show (b + 256 * val r) / 4 = (b / 4 + 64 * (val r % 4)) + 256 * (val r / 4) from by omega, and_digit _ _ _ _ (by omega) (by decide), val_shift2 r h2]
    congr 1
    have key : ∀ b : Fin 256, ∀ t : Fin 4, (b.val / 4 + 64 * t.val) &&& 51 = b.val / 4 &&& 51 := by decide +kernel
    exact key ⟨b, h1⟩ ⟨val r % 4, by omega⟩
/-- Bytes of two numbers below five. -/
def halves (l : List Nat) : Prop := ∀ b ∈ l, b ≤ 68 ∧ b % 16 ≤ 4
theorem halves_low (l : List Nat) (h : halves l) : val l % 16 ≤ 4 := by
  cases l with
  | nil => decide
  | cons b r =>
    have := (h b List.mem_cons_self).2
    rw [val]
    omega
theorem val_shift4 : ∀ l : List Nat, halves l → (val l / 16 + val l) &&& val (List.replicate l.length 15) = val (l.map fun b => (b / 16 + b) &&& 15)
  | [], _ => rfl
  | b :: r, h => by
    have h1 := h b List.mem_cons_self
    have h2 : halves r := fun x hx => h x (List.mem_cons_of_mem _ hx)
    have h3 := halves_low r h2
    rw [List.length_cons, List.replicate_succ, List.map_cons, val, val, val, show (b + 256 * val r) / 16 + (b + 256 * val r) = (b / 16 + 16 * (val r % 16) + b) + 256 * (val r / 16 + val r) from by omega, and_digit _ _ _ _ (by omega) (by decide), val_shift4 r h2]
    congr 1
    rw [show (15 : Nat) = 2 ^ 4 - 1 from rfl, Nat.and_two_pow_sub_one_eq_mod, Nat.and_two_pow_sub_one_eq_mod]
    omega
theorem val_add : ∀ (l : List Nat) (f g : Nat → Nat), val (l.map f) + val (l.map g) = val (l.map fun b => f b + g b)
  | [], _, _ => rfl
  | b :: r, f, g => by
    have := val_add r f g
    simp only [List.map_cons, val]
    omega
def d1 (b : Nat) : Nat := (b / 2 &&& 85) + (b &&& 85)
def d2 (b : Nat) : Nat := (b / 4 &&& 51) + (b &&& 51)
def d4 (b : Nat) : Nat := (b / 16 + b) &&& 15
/-- How many of the lowest n bits are one. -/
def cnt (x : Nat) : Nat → Nat
  | 0 => 0
  | n + 1 => cnt x n + (x.testBit n).toNat
theorem d1_lt : ∀ b : Fin 256, d1 b.val < 256 := by decide +kernel
theorem d2_half : ∀ b : Fin 256, d2 (d1 b.val) ≤ 68 ∧ d2 (d1 b.val) % 16 ≤ 4 := by decide +kernel
theorem d4_cnt : ∀ b : Fin 256, d4 (d2 (d1 b.val)) = cnt b.val 8 := by decide +kernel
theorem cnt_le (x : Nat) : ∀ n, cnt x n ≤ n
  | 0 => Nat.le_refl _
  | n + 1 => by
    have := cnt_le x n
    have : (x.testBit n).toNat ≤ 1 := by cases x.testBit n <;> decide
    rw [cnt]
    omega
theorem cnt_low (b y : Nat) (hb : b < 256) : ∀ n, n ≤ 8 → cnt (b + 256 * y) n = cnt b n
  | 0, _ => rfl
  | n + 1, h => by
    rw [cnt, cnt, cnt_low b y hb n (by omega), Nat.add_comm b, show (256 : Nat) = 2 ^ 8 from rfl, Nat.testBit_two_pow_mul_add _ (show b < 2 ^ 8 from hb), if_pos (by omega)]
theorem cnt_digit (b y : Nat) (hb : b < 256) : ∀ n, cnt (b + 256 * y) (8 + n) = cnt b 8 + cnt y n
  | 0 => by rw [Nat.add_zero, cnt_low b y hb 8 (Nat.le_refl _), cnt, Nat.add_zero]
  | n + 1 => by
    show cnt (b + 256 * y) (8 + n) + ((b + 256 * y).testBit (8 + n)).toNat = cnt b 8 + (cnt y n + (y.testBit n).toNat)
    rw [cnt_digit b y hb n, Nat.add_comm b, show (256 : Nat) = 2 ^ 8 from rfl, Nat.testBit_two_pow_mul_add _ (show b < 2 ^ 8 from hb), if_neg (by omega), Nat.add_sub_cancel_left, Nat.add_assoc]
/-- A number below 2^64 is eight bytes. -/
theorem bytes_of (x : Nat) (hx : x < 18446744073709551616) : ∃ b0 b1 b2 b3 b4 b5 b6 b7, b0 < 256 ∧ b1 < 256 ∧ b2 < 256 ∧ b3 < 256 ∧ b4 < 256 ∧ b5 < 256 ∧ b6 < 256 ∧ b7 < 256 ∧ x = val [b0, b1, b2, b3, b4, b5, b6, b7] := by
  refine ⟨x % 256, x / 256 % 256, x / 65536 % 256, x / 16777216 % 256, x / 4294967296 % 256, x / 1099511627776 % 256, x / 281474976710656 % 256, x / 72057594037927936, by omega, by omega, by omega, by omega, by omega, by omega, by omega, by omega, ?_⟩
  simp only [val]
  omega
theorem cnt_val (b0 b1 b2 b3 b4 b5 b6 b7 : Nat) (h0 : b0 < 256) (h1 : b1 < 256) (h2 : b2 < 256) (h3 : b3 < 256) (h4 : b4 < 256) (h5 : b5 < 256) (h6 : b6 < 256) (h7 : b7 < 256) :
    cnt (val [b0, b1, b2, b3, b4, b5, b6, b7]) 64 = cnt b0 8 + (cnt b1 8 + (cnt b2 8 + (cnt b3 8 + (cnt b4 8 + (cnt b5 8 + (cnt b6 8 + cnt b7 8)))))) := by
  simp only [val]
  rw [show (64 : Nat) = 8 + 56 from rfl, cnt_digit _ _ h0, show (56 : Nat) = 8 + 48 from rfl, cnt_digit _ _ h1, show (48 : Nat) = 8 + 40 from rfl, cnt_digit _ _ h2, show (40 : Nat) = 8 + 32 from rfl, cnt_digit _ _ h3, show (32 : Nat) = 8 + 24 from rfl, cnt_digit _ _ h4, show (24 : Nat) = 8 + 16 from rfl, cnt_digit _ _ h5, show (16 : Nat) = 8 + 8 from rfl, cnt_digit _ _ h6, Nat.mul_zero, Nat.add_zero]
def n1 (x : Nat) : Nat := (x / 2 &&& 6148914691236517205) + (x &&& 6148914691236517205)
def n2 (x : Nat) : Nat := (x / 4 &&& 3689348814741910323) + (x &&& 3689348814741910323)
def n4 (x : Nat) : Nat := (x / 16 + x) &&& 1085102592571150095
theorem n124 (x : Nat) (hx : x < 18446744073709551616) : ∃ p0 p1 p2 p3 p4 p5 p6 p7 : Nat, p0 ≤ 8 ∧ p1 ≤ 8 ∧ p2 ≤ 8 ∧ p3 ≤ 8 ∧ p4 ≤ 8 ∧ p5 ≤ 8 ∧ p6 ≤ 8 ∧ p7 ≤ 8 ∧
    n4 (n2 (n1 x)) = val [p0, p1, p2, p3, p4, p5, p6, p7] ∧ cnt x 64 = p0 + (p1 + (p2 + (p3 + (p4 + (p5 + (p6 + p7)))))) := by
  obtain ⟨b0, b1, b2, b3, b4, b5, b6, b7, h0, h1, h2, h3, h4, h5, h6, h7, rfl⟩ := bytes_of x hx
  refine ⟨cnt b0 8, cnt b1 8, cnt b2 8, cnt b3 8, cnt b4 8, cnt b5 8, cnt b6 8, cnt b7 8, cnt_le _ _, cnt_le _ _, cnt_le _ _, cnt_le _ _, cnt_le _ _, cnt_le _ _, cnt_le _ _, cnt_le _ _, ?_, cnt_val _ _ _ _ _ _ _ _ h0 h1 h2 h3 h4 h5 h6 h7⟩
  obtain ⟨l, hl⟩ : ∃ l, l = [b0, b1, b2, b3, b4, b5, b6, b7] := ⟨_, rfl⟩
  have hlen : l.length = 8 := by rw [hl]; rfl
  have hb : bytes l := by
    intro b hm
    rw [hl] at hm
    simp only [List.mem_cons, List.not_mem_nil, or_false] at hm
    rcases hm with rfl | rfl | rfl | rfl | rfl | rfl | rfl | rfl <;> assumption
  have e1 : n1 (val l) = val (l.map d1) := by
    have a := val_shift1 l hb
    have c := val_and 85 (by decide) l hb
    rw [hlen] at a c
    have m : val (List.replicate 8 85) = 6148914691236517205 := by decide
    rw [m] at a c
    unfold n1
    rw [a, c, val_add]
    rfl
  have hb1 : bytes (l.map d1) := by
    intro b hm
    rw [List.mem_map] at hm
    obtain ⟨q, hq, rfl⟩ := hm
    exact d1_lt ⟨q, hb q hq⟩
  have e2 : n2 (val (l.map d1)) = val (l.map fun b => d2 (d1 b)) := by
    have a := val_shift2 _ hb1
    have c := val_and 51 (by decide) _ hb1
    rw [List.length_map, hlen] at a c
    have m : val (List.replicate 8 51) = 3689348814741910323 := by decide
    rw [m] at a c
    unfold n2
    rw [a, c, val_add, List.map_map]
    rfl
  have hb2 : halves (l.map fun b => d2 (d1 b)) := by
    intro b hm
    rw [List.mem_map] at hm
    obtain ⟨q, hq, rfl⟩ := hm
    exact d2_half ⟨q, hb q hq⟩
  have e4 : n4 (val (l.map fun b => d2 (d1 b))) = val (l.map fun b => cnt b 8) := by
    have a := val_shift4 _ hb2
    rw [List.length_map, hlen] at a
    have m : val (List.replicate 8 15) = 1085102592571150095 := by decide
    rw [m] at a
    unfold n4
    rw [a, List.map_map]
    congr 1
    apply List.map_congr_left
    intro b hm
    exact d4_cnt ⟨b, hb b hm⟩
  rw [← hl, e1, e2, e4, hl]
  rfl
/-- The last three additions leave the sum in the lowest byte. -/
def n8 (x : Nat) : Nat := x + x / 256
def n16 (x : Nat) : Nat := x + x / 65536
def n32 (x : Nat) : Nat := x + x / 4294967296
theorem sums (p0 p1 p2 p3 p4 p5 p6 p7 : Nat) (h0 : p0 ≤ 8) (h1 : p1 ≤ 8) (h2 : p2 ≤ 8) (h3 : p3 ≤ 8) (h4 : p4 ≤ 8) (h5 : p5 ≤ 8) (h6 : p6 ≤ 8) (h7 : p7 ≤ 8) :
    n8 (val [p0, p1, p2, p3, p4, p5, p6, p7]) < 9223372036854775808 ∧ n16 (n8 (val [p0, p1, p2, p3, p4, p5, p6, p7])) < 9223372036854775808 ∧ n32 (n16 (n8 (val [p0, p1, p2, p3, p4, p5, p6, p7]))) < 9223372036854775808 ∧
    n32 (n16 (n8 (val [p0, p1, p2, p3, p4, p5, p6, p7]))) % 128 = p0 + (p1 + (p2 + (p3 + (p4 + (p5 + (p6 + p7)))))) := by
  have e8 : n8 (val [p0, p1, p2, p3, p4, p5, p6, p7]) = val [p0 + p1, p1 + p2, p2 + p3, p3 + p4, p4 + p5, p5 + p6, p6 + p7, p7] := by
    unfold n8
    rw [show val [p0, p1, p2, p3, p4, p5, p6, p7] / 256 = val [p1, p2, p3, p4, p5, p6, p7] from by simp only [val]; omega]
    simp only [val]
    omega
  have e16 : n16 (val [p0 + p1, p1 + p2, p2 + p3, p3 + p4, p4 + p5, p5 + p6, p6 + p7, p7]) = val [p0 + p1 + (p2 + p3), p1 + p2 + (p3 + p4), p2 + p3 + (p4 + p5), p3 + p4 + (p5 + p6), p4 + p5 + (p6 + p7), p5 + p6 + p7, p6 + p7, p7] := by
    unfold n16
    rw [show val [p0 + p1, p1 + p2, p2 + p3, p3 + p4, p4 + p5, p5 + p6, p6 + p7, p7] / 65536 = val [p2 + p3, p3 + p4, p4 + p5, p5 + p6, p6 + p7, p7] from by simp only [val]; omega]
    simp only [val]
    omega
  rw [e8, e16]
  generalize hA : p0 + p1 + (p2 + p3) = A
  generalize hE : p4 + p5 + (p6 + p7) = E
  have e32 : n32 (val [A, p1 + p2 + (p3 + p4), p2 + p3 + (p4 + p5), p3 + p4 + (p5 + p6), E, p5 + p6 + p7, p6 + p7, p7]) = A + E + 256 * (val [p1 + p2 + (p3 + p4), p2 + p3 + (p4 + p5), p3 + p4 + (p5 + p6), E, p5 + p6 + p7, p6 + p7, p7] + val [p5 + p6 + p7, p6 + p7, p7]) := by
    unfold n32
    rw [show val [A, p1 + p2 + (p3 + p4), p2 + p3 + (p4 + p5), p3 + p4 + (p5 + p6), E, p5 + p6 + p7, p6 + p7, p7] / 4294967296 = val [E, p5 + p6 + p7, p6 + p7, p7] from by simp only [val]; omega]
    simp only [val]
    omega
  refine ⟨?_, ?_, ?_, ?_⟩
  · simp only [val]; omega
  · simp only [val]; omega
  · rw [e32]; simp only [val]; omega
  · rw [e32]; omega
/-! ### math/bits' expression, and bits by shifts -/
def iA0 (a : Int) : Int := IntKind.u64.wrap ((bits .and .u64 (a / 2) 6148914691236517205) + (bits .and .u64 a 6148914691236517205))
def iA1 (a : Int) : Int := IntKind.u64.wrap ((bits .and .u64 (a / 4) 3689348814741910323) + (bits .and .u64 a 3689348814741910323))
def iA2 (a : Int) : Int := bits .and .u64 (IntKind.u64.wrap ((a / 16) + a)) 1085102592571150095
def iA3 (a : Int) : Int := IntKind.u64.wrap (a + (a / 256))
def iA4 (a : Int) : Int := IntKind.u64.wrap (a + (a / 65536))
def iA5 (a : Int) : Int := IntKind.u64.wrap (a + (a / 4294967296))
def ones (a : Int) : Int := bits .and .i64 (wrap64 (iA5 (iA4 (iA3 (iA2 (iA1 (iA0 a))))))) 127
theorem and_le (a b : Nat) : (a &&& b : Nat) ≤ b := Nat.and_le_right
theorem iA0_n (x : Nat) (hx : x < 18446744073709551616) : iA0 (x : Int) = (n1 x : Int) := by
  unfold iA0 n1
  have e1 := and_n (x / 2) 6148914691236517205 (by omega) (by decide)
  have e2 := and_n x 6148914691236517205 hx (by decide)
  have b1 := and_le (x / 2) 6148914691236517205
  have b2 := and_le x 6148914691236517205
  rw [show ((x : Int) / 2) = ((x / 2 : Nat) : Int) from by omega]
  rw [show (6148914691236517205 : Int) = ((6148914691236517205 : Nat) : Int) from rfl, e1, e2, wu64 _ (by omega) (by omega)]
  omega
theorem n1_lt (x : Nat) : n1 x < 18446744073709551616 := by
  unfold n1
  have b1 := and_le (x / 2) 6148914691236517205
  have b2 := and_le x 6148914691236517205
  omega
theorem iA1_n (x : Nat) (hx : x < 18446744073709551616) : iA1 (x : Int) = (n2 x : Int) := by
  unfold iA1 n2
  have e1 := and_n (x / 4) 3689348814741910323 (by omega) (by decide)
  have e2 := and_n x 3689348814741910323 hx (by decide)
  have b1 := and_le (x / 4) 3689348814741910323
  have b2 := and_le x 3689348814741910323
  rw [show ((x : Int) / 4) = ((x / 4 : Nat) : Int) from by omega]
  rw [show (3689348814741910323 : Int) = ((3689348814741910323 : Nat) : Int) from rfl, e1, e2, wu64 _ (by omega) (by omega)]
  omega
theorem n2_lt (x : Nat) : n2 x ≤ 7378697629483820646 := by
  unfold n2
  have b1 := and_le (x / 4) 3689348814741910323
  have b2 := and_le x 3689348814741910323
  omega
theorem iA2_n (x : Nat) (hx : x ≤ 7378697629483820646) : iA2 (x : Int) = (n4 x : Int) := by
  unfold iA2 n4
  have e1 := and_n (x / 16 + x) 1085102592571150095 (by omega) (by decide)
  rw [show ((x : Int) / 16 + (x : Int)) = ((x / 16 + x : Nat) : Int) from by omega, wu64 _ (by omega) (by omega)]
  exact e1
theorem ones_eq (x : Nat) (hx : x < 18446744073709551616) : ones (x : Int) = (cnt x 64 : Int) := by
  obtain ⟨p0, p1, p2, p3, p4, p5, p6, p7, h0, h1, h2, h3, h4, h5, h6, h7, e, c⟩ := n124 x hx
  obtain ⟨s1, s2, s3, s4⟩ := sums p0 p1 p2 p3 p4 p5 p6 p7 h0 h1 h2 h3 h4 h5 h6 h7
  unfold ones
  rw [iA0_n x hx, iA1_n _ (n1_lt x), iA2_n _ (n2_lt _), e, c]
  generalize val [p0, p1, p2, p3, p4, p5, p6, p7] = v at *
  have e3 : iA3 (v : Int) = (n8 v : Int) := by
    unfold iA3
    unfold n8 at s1 ⊢
    rw [wu64 _ (by omega) (by omega)]
    omega
  rw [e3]
  generalize n8 v = v3 at *
  have e4 : iA4 (v3 : Int) = (n16 v3 : Int) := by
    unfold iA4
    unfold n16 at s2 ⊢
    rw [wu64 _ (by omega) (by omega)]
    omega
  rw [e4]
  generalize n16 v3 = v4 at *
  have e5 : iA5 (v4 : Int) = (n32 v4 : Int) := by
    unfold iA5
    unfold n32 at s3 ⊢
    rw [wu64 _ (by omega) (by omega)]
    omega
  rw [e5]
  generalize n32 v4 = v5 at *
  rw [show wrap64 (v5 : Int) = (v5 : Int) from by unfold wrap64; omega]
  have hb := (bits_nat .i64 63 (by decide) (fun n q0 q1 => by rw [IntKind.wrap_i64]; omega) v5 127 (by omega) (by decide)).1
  rw [show (127 : Int) = ((127 : Nat) : Int) from rfl, hb, show (127 : Nat) = 2 ^ 7 - 1 from rfl, Nat.and_two_pow_sub_one_eq_mod, show (2 : Nat) ^ 7 = 128 from rfl, s4]
theorem shr_n (x j : Nat) (hj : j < 64) : shr .u64 (x : Int) (j : Int) = ((x / 2 ^ j : Nat) : Int) := by
  unfold shr
  have e : min (j : Int).toNat IntKind.u64.bits = j := by
    show min (j : Int).toNat 64 = j
    omega
  rw [e]
  simp
theorem bit_n (x j : Nat) (hx : x < 18446744073709551616) (hj : j < 64) : bits .and .u64 (shr .u64 (x : Int) (j : Int)) 1 = ((x.testBit j).toNat : Int) := by
  have hlt : x / 2 ^ j < 18446744073709551616 := Nat.lt_of_le_of_lt (Nat.div_le_self _ _) hx
  have h := and_n (x / 2 ^ j) 1 (by omega) (by decide)
  rw [shr_n x j hj, show (1 : Int) = ((1 : Nat) : Int) from rfl, h, Nat.and_one_is_mod, Nat.testBit_eq_decide_div_mod_eq]
  have h2 : x / 2 ^ j % 2 = 0 ∨ x / 2 ^ j % 2 = 1 := by omega
  rcases h2 with h2 | h2 <;> rw [h2] <;> rfl
/-! ### a run taken away, a run given back -/
/-- A number's bits. -/
theorem lt_of_bits (x : Nat) (h : ∀ j, 64 ≤ j → x.testBit j = false) : x < 18446744073709551616 := Nat.lt_pow_two_of_testBit (n := 64) x h
theorem bit_high (x j : Nat) (hx : x < 18446744073709551616) (hj : 64 ≤ j) : x.testBit j = false := Nat.testBit_lt_two_pow (Nat.lt_of_lt_of_le (show x < 2 ^ 64 from hx) (Nat.pow_le_pow_right (show 2 > 0 from by decide) hj))
def takeN (x a n : Nat) : Nat := x &&& (2 ^ 64 - (maskN a n + 1))
theorem takeN_bit (x a n j : Nat) (han : a + n ≤ 64) (hj : j < 64) : (takeN x a n).testBit j = (x.testBit j && !(decide (a ≤ j) && decide (j < a + n))) := by
  unfold takeN
  rw [Nat.testBit_and, Nat.testBit_two_pow_sub_succ (maskN_lt a n han), decide_eq_true hj, Bool.true_and, maskN_bit]
theorem takeN_lt (x a n : Nat) (hx : x < 18446744073709551616) : takeN x a n < 18446744073709551616 := Nat.lt_of_le_of_lt Nat.and_le_left hx
theorem mask_sub (x a n : Nat) (h : x &&& maskN a n = maskN a n) (j : Nat) (h1 : a ≤ j) (h2 : j < a + n) : x.testBit j = true := by
  have e : (x &&& maskN a n).testBit j = (maskN a n).testBit j := by rw [h]
  rw [Nat.testBit_and, maskN_bit, decide_eq_true h1, decide_eq_true h2] at e
  simpa using e
theorem mask_none (x a n : Nat) (h : ∀ j, a ≤ j → j < a + n → x.testBit j = false) : x &&& maskN a n = 0 := by
  apply Nat.eq_of_testBit_eq
  intro j
  rw [Nat.testBit_and, maskN_bit, Nat.zero_testBit]
  by_cases c : a ≤ j ∧ j < a + n
  · rw [h j c.1 c.2, Bool.false_and]
  · have : (decide (a ≤ j) && decide (j < a + n)) = false := by
      rw [← Bool.not_eq_true, Bool.and_eq_true, decide_eq_true_eq, decide_eq_true_eq]
      exact c
    rw [this, Bool.and_false]
theorem cnt_take (x a n : Nat) (han : a + n ≤ 64) (h : ∀ j, a ≤ j → j < a + n → x.testBit j = true) : ∀ m, m ≤ 64 → cnt (takeN x a n) m + (min m (a + n) - min m a) = cnt x m
  | 0, _ => by simp [cnt]
  | m + 1, hm => by
    have ih := cnt_take x a n han h m (by omega)
    rw [cnt, cnt, takeN_bit x a n m han (by omega)]
    by_cases c : a ≤ m ∧ m < a + n
    · rw [h m c.1 c.2, decide_eq_true c.1, decide_eq_true c.2]
      simp only [Bool.and_self, Bool.not_true, Bool.and_false, Bool.toNat_false, Bool.toNat_true]
      omega
    · have : (decide (a ≤ m) && decide (m < a + n)) = false := by
        rw [← Bool.not_eq_true, Bool.and_eq_true, decide_eq_true_eq, decide_eq_true_eq]
        exact c
      rw [this, Bool.not_false, Bool.and_true]
      omega
theorem cnt_taken (x a n : Nat) (han : a + n ≤ 64) (h : x &&& maskN a n = maskN a n) : cnt (takeN x a n) 64 + n = cnt x 64 := by
  have := cnt_take x a n han (mask_sub x a n h) 64 (Nat.le_refl _)
  omega
end Go.Proofs.Ytbmddfkmlhmbgaa.Pop
