/- Plain integer facts for the layer 'fixed': absolute values, words of 64 bits, Knuth's division by two digits. No program here. -/
import Derived.Test.YtcnckfhibmlioaaWMore
import Derived.Laws.MathBits
import Derived.Laws.Bits64b
namespace Go.Proofs.Ytcnckfhibmlioaa.Math
set_option linter.unusedVariables false
set_option linter.unusedSimpArgs false
open Go Go.RowKit Go.Proofs.YtcnckfhibmlioaaW.PrintWords Go.Proofs.YtcnckfhibmlioaaW.PrintLast Go.Proofs.YtcnckfhibmlioaaW.PrintMore

theorem wf64 {a : Int} (h : (Lit.int .i64 a).wf = true) : -9223372036854775808 ≤ a ∧ a ≤ 9223372036854775807 := by
  simpa [Lit.wf, IntKind.min, IntKind.max, IntKind.signed, IntKind.bits] using h
theorem wfu64 {a : Int} (h : (Lit.int .u64 a).wf = true) : 0 ≤ a ∧ a ≤ 18446744073709551615 := by
  simpa [Lit.wf, IntKind.min, IntKind.max, IntKind.signed, IntKind.bits] using h
theorem uw (n : Int) : IntKind.u64.wrap n = n % 18446744073709551616 := IntKind.wrap_u64 n
theorem uw_in (n : Int) (h0 : 0 ≤ n) (h1 : n ≤ 18446744073709551615) : IntKind.u64.wrap n = n := by rw [uw]; omega
theorem iw (n : Int) : wrap64 n = (n + 9223372036854775808) % 18446744073709551616 - 9223372036854775808 := by unfold wrap64; rfl
theorem iw_in (n : Int) (h0 : -9223372036854775808 ≤ n) (h1 : n ≤ 9223372036854775807) : wrap64 n = n := by rw [iw]; omega

/-- The absolute value. -/
def ab (a : Int) : Int := if a < 0 then -a else a
theorem ab_nonneg (a : Int) : 0 ≤ ab a := by unfold ab; omega
theorem ab_le {a : Int} (h0 : -9223372036854775808 ≤ a) (h1 : a ≤ 9223372036854775807) : ab a ≤ 9223372036854775808 := by unfold ab; omega
theorem ab_pos {a : Int} (h : a ≠ 0) : 0 < ab a := by unfold ab; omega
theorem ab_mul (a b : Int) : ab (a * b) = ab a * ab b := by
  unfold ab
  by_cases ha : a < 0 <;> by_cases hb : b < 0
  · rw [if_pos ha, if_pos hb, if_neg (by have := Int.mul_pos_of_neg_of_neg ha hb; omega), Int.neg_mul_neg]
  · rw [if_pos ha, if_neg hb]
    by_cases h0 : b = 0
    · subst h0; simp
    · rw [if_pos (Int.mul_neg_of_neg_of_pos ha (by omega)), Int.neg_mul]
  · rw [if_neg ha, if_pos hb]
    by_cases h0 : a = 0
    · subst h0; simp
    · rw [if_pos (Int.mul_neg_of_pos_of_neg (by omega) hb), Int.mul_neg]
  · rw [if_neg ha, if_neg hb, if_neg (by have := Int.mul_nonneg (a := a) (b := b) (by omega) (by omega); omega)]

/-- What a checked result is: the number if it is an int, else 0 and false. -/
def ex (q : Int) : Int × Bool := if -9223372036854775808 ≤ q ∧ q ≤ 9223372036854775807 then (q, true) else (0, false)
theorem ex_in {q : Int} (h : -9223372036854775808 ≤ q ∧ q ≤ 9223372036854775807) : ex q = (q, true) := by unfold ex; rw [if_pos h]
theorem ex_out {q : Int} (h : ¬ (-9223372036854775808 ≤ q ∧ q ≤ 9223372036854775807)) : ex q = (0, false) := by unfold ex; rw [if_neg h]
theorem ex_range (q : Int) : -9223372036854775808 ≤ (ex q).1 ∧ (ex q).1 ≤ 9223372036854775807 := by unfold ex; split <;> simp <;> omega

theorem shl64 (x s : Int) (h1 : s ≤ 64) : shl .u64 x s = (x * 2 ^ s.toNat) % 18446744073709551616 := by
  unfold shl; rw [uw, Nat.min_eq_left (by simp [IntKind.bits]; omega)]
theorem shr64 (x s : Int) (h1 : s ≤ 64) : shr .u64 x s = x / 2 ^ s.toNat := by
  unfold shr; rw [Nat.min_eq_left (by simp [IntKind.bits]; omega)]

/-- 'or' of a multiple of 2^s and what is below 2^s. -/
theorem or_add (x y : Int) (s : Nat) (hx0 : 0 ≤ x) (hx : x ≤ 18446744073709551615) (hy0 : 0 ≤ y) (hd : x % 2 ^ s = 0) (hy : y < 2 ^ s) (hs : x + y ≤ 18446744073709551615) : bits .or .u64 x y = x + y := by
  obtain ⟨a, rfl⟩ := Int.eq_ofNat_of_zero_le hx0
  obtain ⟨b, rfl⟩ := Int.eq_ofNat_of_zero_le hy0
  rw [bits_or_u64_nat a b (by omega) (by omega)]
  have hd' : a % 2 ^ s = 0 := by
    have : ((a % 2 ^ s : Nat) : Int) = 0 := by rw [Int.natCast_emod]; simpa using hd
    omega
  have hy' : b < 2 ^ s := by
    have : ((b : Nat) : Int) < ((2 ^ s : Nat) : Int) := by simpa using hy
    omega
  have e : a = 2 ^ s * (a / 2 ^ s) := by have := Nat.div_add_mod a (2 ^ s); omega
  rw [e, ← Nat.two_pow_add_eq_or_of_lt hy']
  omega

/-- A test quotient that is too great. -/
theorem kn_gt {u32 u1 q r y1 y0 : Int} (hq : u32 = q * y1 + r) (h : q * y0 > 4294967296 * r + u1) : u32 * 4294967296 + u1 < q * (y1 * 4294967296 + y0) := by
  have e : q * (y1 * 4294967296 + y0) = (q * y1) * 4294967296 + q * y0 := by grind
  rw [e, hq]; generalize q * y1 = A at *; generalize q * y0 = C at *; omega
/-- One that is not. -/
theorem kn_le {u32 u1 q r y1 y0 : Int} (hq : u32 = q * y1 + r) (h : q * y0 ≤ 4294967296 * r + u1) : q * (y1 * 4294967296 + y0) ≤ u32 * 4294967296 + u1 := by
  have e : q * (y1 * 4294967296 + y0) = (q * y1) * 4294967296 + q * y0 := by grind
  rw [e, hq]; generalize q * y1 = A at *; generalize q * y0 = C at *; omega
/-- The quotient, out of two bounds. -/
theorem quo_of {u q y : Int} (hy : 0 < y) (h1 : q * y ≤ u) (h2 : u < (q + 1) * y) : u / y = q := by
  have a : q ≤ u / y := (Int.le_ediv_iff_mul_le hy).2 h1
  have b : u / y < q + 1 := (Int.ediv_lt_iff_lt_mul hy).2 h2
  omega
theorem lt_of_mul {u q y : Int} (hy : 0 < y) (h : u < q * y) : u / y < q := (Int.ediv_lt_iff_lt_mul hy).2 h
theorem le_of_mul {u q y : Int} (hy : 0 < y) (h : q * y ≤ u) : q ≤ u / y := (Int.le_ediv_iff_mul_le hy).2 h
theorem two_digits {u32 u1 u0 y : Int} (hy : 0 < y) : ((u32 * 4294967296 + u1) * 4294967296 + u0) / y = (u32 * 4294967296 + u1) / y * 4294967296 + ((u32 * 4294967296 + u1) % y * 4294967296 + u0) / y ∧
    ((u32 * 4294967296 + u1) * 4294967296 + u0) % y = ((u32 * 4294967296 + u1) % y * 4294967296 + u0) % y := by
  generalize u32 * 4294967296 + u1 = u
  have e := Int.mul_ediv_add_emod u y
  have e2 : u * 4294967296 + u0 = (u % y * 4294967296 + u0) + (u / y * 4294967296) * y := by
    generalize u / y = q at *; generalize u % y = r at *; rw [← e]; grind
  rw [e2]
  exact ⟨by rw [Int.add_mul_ediv_right _ _ (by omega)]; omega, by rw [Int.add_mul_emod_self_right]⟩
/-- The quotient, rounded down. -/
def fl (n c : Int) : Int := if 0 < c then n / c else (-n) / (-c)
theorem neg_ediv_pos {N C : Int} (hC : 0 < C) : (-N) / C = if N % C = 0 then -(N / C) else -(N / C) - 1 := by
  have h1 := Int.mul_ediv_add_emod N C
  have h2 := Int.emod_nonneg N (show C ≠ 0 by omega)
  have h3 := Int.emod_lt_of_pos N hC
  rw [Int.mul_comm] at h1
  split
  · apply quo_of hC
    · rw [Int.neg_mul]; omega
    · rw [Int.add_mul, Int.neg_mul, Int.one_mul]; omega
  · apply quo_of hC
    · rw [Int.sub_mul, Int.neg_mul, Int.one_mul]; omega
    · rw [Int.sub_add_cancel, Int.neg_mul]; omega
/-- The product's sign and size. -/
theorem mul_ab (a b : Int) : a * b = if (decide (a < 0) != decide (b < 0)) = true then -(ab a * ab b) else ab a * ab b := by
  unfold ab
  by_cases ha : a < 0 <;> by_cases hb : b < 0 <;> simp [ha, hb, Int.neg_mul, Int.mul_neg]
theorem fl_ab (a b c : Int) (hc : c ≠ 0) : fl (a * b) c = if ((decide (a < 0) != decide (b < 0)) != decide (c < 0)) = true then (if ab a * ab b % ab c = 0 then -(ab a * ab b / ab c) else -(ab a * ab b / ab c) - 1) else ab a * ab b / ab c := by
  have hC := ab_pos hc
  rw [mul_ab a b]
  have e : ab c = if c < 0 then -c else c := rfl
  unfold fl
  by_cases h : c < 0
  · rw [if_neg (by omega)]
    rw [if_pos h] at e
    rw [← e]
    cases hs : (decide (a < 0) != decide (b < 0)) with
    | true => simp [h]
    | false => simp [h, neg_ediv_pos hC]
  · rw [if_pos (by omega)]
    rw [if_neg h] at e
    rw [e] at hC ⊢
    cases hs : (decide (a < 0) != decide (b < 0)) with
    | true => simp [h, neg_ediv_pos hC]
    | false => simp [h]
/-- A product, divided, rounded down, checked. -/
def md (a b c : Int) : Int × Bool := if c = 0 then (0, false) else ex (fl (a * b) c)
theorem md_range (a b c : Int) : -9223372036854775808 ≤ (md a b c).1 ∧ (md a b c).1 ≤ 9223372036854775807 := by
  unfold md; split
  · simp
  · exact ex_range _
theorem tdiv_ab (a b : Int) : Int.tdiv a b = if (decide (a < 0) != decide (b < 0)) = true then -(ab a / ab b) else ab a / ab b := by
  unfold ab
  by_cases ha : a < 0 <;> by_cases hb : b < 0
  · simp only [ha, hb, if_true, bne_self_eq_false]
    rw [← Int.tdiv_eq_ediv_of_nonneg (by omega), Int.neg_tdiv, Int.tdiv_neg]; simp
  · simp [ha, hb]
    rw [← Int.tdiv_eq_ediv_of_nonneg (by omega), Int.neg_tdiv]; simp
  · simp [ha, hb]
    rw [Int.tdiv_eq_ediv_of_nonneg (by omega)]
  · simp [ha, hb]
    rw [Int.tdiv_eq_ediv_of_nonneg (by omega)]
theorem tmod_ab (a b : Int) : Int.tmod a b = if a < 0 then -(ab a % ab b) else ab a % ab b := by
  unfold ab
  by_cases ha : a < 0 <;> by_cases hb : b < 0
  · simp only [ha, hb, if_true]
    rw [← Int.tmod_eq_emod_of_nonneg (by omega), Int.neg_tmod, Int.tmod_neg]; simp
  · simp only [ha, hb, if_true, if_false]
    rw [← Int.tmod_eq_emod_of_nonneg (by omega), Int.neg_tmod]; simp
  · simp only [ha, hb, if_true, if_false]
    rw [Int.tmod_eq_emod_of_nonneg (by omega)]; simp
  · simp only [ha, hb, if_false]
    rw [Int.tmod_eq_emod_of_nonneg (by omega)]
end Go.Proofs.Ytcnckfhibmlioaa.Math
