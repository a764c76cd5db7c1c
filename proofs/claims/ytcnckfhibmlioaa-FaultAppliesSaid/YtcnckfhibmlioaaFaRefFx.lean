/- Facts about the reference's functions, turned to this seat by programs of this session (wip/tools/port.py, portmore.py). -/
import Derived.Test.YtcnckfhibmlioaaFaFixed
import Derived.Test.YtcnckfhibmlioaaFaP16
namespace Go.Proofs.Ytcnckfhibmlioaa.FxFa
set_option linter.unusedVariables false
set_option linter.unusedSimpArgs false
open Go Go.RowKit  Go.Proofs.Ytcnckfhibmlioaa.PFa Go.Proofs.Ytcnckfhibmlioaa.Math Go.Proofs.YtcnckfhibmlioaaW.PrintWords Go.Proofs.YtcnckfhibmlioaaW.PrintLast Go.Proofs.YtcnckfhibmlioaaW.PrintMore
theorem rsize_f (a : Int) (h0 : -9223372036854775808 ≤ a) (h1 : a ≤ 9223372036854775807) : timesyncref01_size.f a = some (ab a) := by
  unfold timesyncref01_size.f ab
  by_cases h : a < 0
  · rw [if_pos h, if_pos h]; congr 1; simp only [uw, iw]; omega
  · rw [if_neg h, if_neg h]; congr 1; simp only [uw]; omega
theorem rsigned_j0 (k : Nat) (n b : Bool) (m : Int) (h0 : 0 ≤ m) (h1 : m ≤ 18446744073709551615) (hb : b = true ↔ ¬ (-9223372036854775808 ≤ (if n = true then -m else m) ∧ (if n = true then -m else m) ≤ 9223372036854775807)) :
    timesyncref01_signed.j0 (k + 1) n m b = some (ex (if n = true then -m else m)) := by
  simp only [timesyncref01_signed.j0]
  unfold ex
  cases b with
  | true => rw [if_pos rfl, if_neg (hb.1 rfl)]
  | false =>
    have hr : (-9223372036854775808 ≤ (if n = true then -m else m) ∧ (if n = true then -m else m) ≤ 9223372036854775807) := by
      apply Classical.byContradiction; intro h; have := hb.2 h; simp at this
    rw [if_neg (by decide), if_pos hr]
    cases n with
    | true =>
      simp only [if_true] at hr ⊢
      by_cases h : m = 0
      · rw [if_pos h, h]; rfl
      · rw [if_neg h]; congr 2; simp only [uw, iw]; omega
    | false =>
      simp only [Bool.false_eq_true, if_false] at hr ⊢
      congr 2; simp only [iw]; omega
theorem rsigned_f (k : Nat) (n : Bool) (hi lo : Int) (hh : 0 ≤ hi) (h0 : 0 ≤ lo) (h1 : lo ≤ 18446744073709551615) (hk : 1 ≤ k) :
    timesyncref01_signed.f k n hi lo = some (ex (if n = true then -(hi * 18446744073709551616 + lo) else hi * 18446744073709551616 + lo)) := by
  obtain ⟨k, rfl⟩ : ∃ m, k = m + 1 := ⟨k - 1, by omega⟩
  unfold timesyncref01_signed.f
  by_cases a : hi > 0
  · rw [if_pos a, ex_out (by cases n <;> simp <;> omega)]; simp only [timesyncref01_signed.j0, if_true]
  · obtain rfl : hi = 0 := by omega
    rw [if_neg a]
    simp only [Int.zero_mul, Int.zero_add]
    by_cases b : lo > 9223372036854775808
    · rw [if_pos b]; exact rsigned_j0 k n true lo h0 h1 (by cases n <;> simp <;> omega)
    · rw [if_neg b]
      by_cases c : lo = 9223372036854775808
      · rw [if_pos c]; exact rsigned_j0 k n (!n) lo h0 h1 (by cases n <;> simp <;> omega)
      · rw [if_neg c]; exact rsigned_j0 k n false lo h0 h1 (by cases n <;> simp <;> omega)
theorem product_f (a b : Int) (ha0 : 0 ≤ a) (ha : a ≤ 18446744073709551615) (hb0 : 0 ≤ b) (hb : b ≤ 18446744073709551615) :
    timesyncref01_product.f a b = some (a * b / 18446744073709551616, a * b % 18446744073709551616) := by
  unfold timesyncref01_product.f
  have ex' : a = a / 4294967296 * 4294967296 + a % 4294967296 := by omega
  have ey' : b = b / 4294967296 * 4294967296 + b % 4294967296 := by omega
  simp only [Int.tdiv_eq_ediv_of_nonneg ha0, Int.tdiv_eq_ediv_of_nonneg hb0, Int.tmod_eq_emod_of_nonneg ha0, Int.tmod_eq_emod_of_nonneg hb0]
  have n1 : ∀ x, 0 ≤ IntKind.u64.wrap x := fun x => by rw [uw]; omega
  simp only [fun x y => Int.tdiv_eq_ediv_of_nonneg (b := y) (n1 x), fun x y => Int.tmod_eq_emod_of_nonneg (b := y) (n1 x)]
  have b1 : 0 ≤ a / 4294967296 ∧ a / 4294967296 ≤ 4294967295 := by omega
  have b2 : 0 ≤ a % 4294967296 ∧ a % 4294967296 ≤ 4294967295 := by omega
  have b3 : 0 ≤ b / 4294967296 ∧ b / 4294967296 ≤ 4294967295 := by omega
  have b4 : 0 ≤ b % 4294967296 ∧ b % 4294967296 ≤ 4294967295 := by omega
  rw [uw_in (a / 4294967296) b1.1 (by omega), uw_in (b / 4294967296) b3.1 (by omega)]
  have pA := prod_bound _ _ b1.1 b1.2 b3.1 b3.2
  have pB := prod_bound _ _ b1.1 b1.2 b4.1 b4.2
  have pC := prod_bound _ _ b2.1 b2.2 b4.1 b4.2
  have pD := prod_bound _ _ b2.1 b2.2 b3.1 b3.2
  have hxy : a * b = a / 4294967296 * (b / 4294967296) * 18446744073709551616 + (a / 4294967296 * (b % 4294967296) + a % 4294967296 * (b / 4294967296)) * 4294967296 + a % 4294967296 * (b % 4294967296) := by
    rw [← split_mul, ← ex', ← ey']
  rw [hxy]
  generalize a / 4294967296 * (b / 4294967296) = A at *
  generalize a / 4294967296 * (b % 4294967296) = B at *
  generalize a % 4294967296 * (b % 4294967296) = C at *
  generalize a % 4294967296 * (b / 4294967296) = D at *
  simp only [uw]
  refine congrArg some (Prod.ext ?_ ?_) <;> simp only <;> omega
/-- The reference's division, bit by bit: what is left to do. -/
theorem divide_l0 (T c : Int) (hT0 : 0 ≤ T) (hT1 : T < 340282366920938463463374607431768211456) (hc : 0 < c) (hc1 : c ≤ 18446744073709551615) (d : Nat) :
    ∀ (k : Nat) (hi lo q1 q0 r i F : Int), 0 ≤ hi → hi ≤ 18446744073709551615 → 0 ≤ lo → lo ≤ 18446744073709551615 → 0 ≤ q1 → q1 ≤ 18446744073709551615 → 0 ≤ q0 → q0 ≤ 18446744073709551615 → 0 ≤ r → r < c →
    i = 128 - (d : Int) → 0 ≤ i → F * (2 ^ d : Nat) = 340282366920938463463374607431768211456 → 0 < F →
    T * F = (q1 * 18446744073709551616 + q0) * c * 340282366920938463463374607431768211456 + r * 340282366920938463463374607431768211456 + (hi * 18446744073709551616 + lo) → d + 1 ≤ k →
    timesyncref01_divide.l0 k hi lo c q1 q0 r i = some (T / c / 18446744073709551616, T / c % 18446744073709551616, T % c) := by
  induction d with
  | zero =>
    intro k hi lo q1 q0 r i F h0 h1 l0 l1 a0 a1 b0 b1 r0 r1 hi' i0 hF F0 hE hk
    obtain ⟨k, rfl⟩ : ∃ m, k = m + 1 := ⟨k - 1, by omega⟩
    simp only [timesyncref01_divide.l0]
    rw [if_neg (by omega)]
    have hF' : F = 340282366920938463463374607431768211456 := by simpa using hF
    rw [hF'] at hE
    have hT : T = (q1 * 18446744073709551616 + q0) * c + r := by
      generalize (q1 * 18446744073709551616 + q0) * c = Z at *; omega
    have e1 : T / c = q1 * 18446744073709551616 + q0 := by
      apply quo_of hc
      · omega
      · rw [Int.add_mul, Int.one_mul]; omega
    have e2 : T % c = r := by
      have := Int.mul_ediv_add_emod T c
      rw [e1, Int.mul_comm] at this; omega
    rw [e1, e2]
    refine congrArg some (Prod.ext ?_ (Prod.ext ?_ rfl)) <;> simp only <;> omega
  | succ d ih =>
    intro k hi lo q1 q0 r i F h0 h1 l0 l1 a0 a1 b0 b1 r0 r1 hi' i0 hF F0 hE hk
    obtain ⟨k, rfl⟩ : ∃ m, k = m + 1 := ⟨k - 1, by omega⟩
    simp only [timesyncref01_divide.l0]
    rw [if_pos (by omega)]
    have hF2 : (2 * F) * (2 ^ d : Nat) = 340282366920938463463374607431768211456 := by
      rw [← hF, Nat.pow_succ, Int.natCast_mul]; grind
    -- the quotient is small
    have hFle : 2 * F ≤ 340282366920938463463374607431768211456 := by
      have : (1 : Int) ≤ ((2 ^ d : Nat) : Int) := by have := Nat.two_pow_pos d; omega
      have := Int.mul_le_mul_of_nonneg_left this (show 0 ≤ 2 * F by omega)
      omega
    have hqs : q1 * 18446744073709551616 + q0 < F := by
      apply Int.not_le.1; intro hle
      have x1 : F ≤ (q1 * 18446744073709551616 + q0) * c := by
        have := Int.mul_le_mul_of_nonneg_left (show (1 : Int) ≤ c by omega) (show 0 ≤ q1 * 18446744073709551616 + q0 by omega)
        omega
      have x2 : T * F < 340282366920938463463374607431768211456 * F := Int.mul_lt_mul_of_pos_right hT1 F0
      generalize (q1 * 18446744073709551616 + q0) * c = Z at *
      generalize T * F = Y at *
      omega
    have e1 : bits .or .u64 (IntKind.u64.wrap (hi * 2)) (lo / 9223372036854775808) = (hi * 2) % 18446744073709551616 + lo / 9223372036854775808 := by
      rw [uw]; exact or_add _ _ 1 (by omega) (by omega) (by omega) (by omega) (by omega) (by omega)
    have e2 : bits .or .u64 (IntKind.u64.wrap (q1 * 2)) (q0 / 9223372036854775808) = (q1 * 2) % 18446744073709551616 + q0 / 9223372036854775808 := by
      rw [uw]; exact or_add _ _ 1 (by omega) (by omega) (by omega) (by omega) (by omega) (by omega)
    have e3 : bits .or .u64 (IntKind.u64.wrap (r * 2)) (hi / 9223372036854775808) = (r * 2) % 18446744073709551616 + hi / 9223372036854775808 := by
      rw [uw]; exact or_add _ _ 1 (by omega) (by omega) (by omega) (by omega) (by omega) (by omega)
    have e4 : bits .or .u64 (IntKind.u64.wrap (q0 * 2)) 1 = (q0 * 2) % 18446744073709551616 + 1 := by
      rw [uw]; exact or_add _ _ 1 (by omega) (by omega) (by omega) (by omega) (by omega) (by omega)
    rw [e1, e2, e3, e4, iw_in (i + 1) (by omega) (by omega)]
    simp only [uw]
    have hE2 : T * (2 * F) = 2 * (T * F) := by grind
    have yes : r * 2 + hi / 9223372036854775808 ≥ c → timesyncref01_divide.l0 k (hi * 2 % 18446744073709551616 + lo / 9223372036854775808) (lo * 2 % 18446744073709551616) c (q1 * 2 % 18446744073709551616 + q0 / 9223372036854775808) (q0 * 2 % 18446744073709551616 + 1) ((r * 2 % 18446744073709551616 + hi / 9223372036854775808 - c) % 18446744073709551616) (i + 1) = some (T / c / 18446744073709551616, T / c % 18446744073709551616, T % c) := by
      intro hge
      refine ih k _ _ _ _ _ (i + 1) (2 * F) (by omega) (by omega) (by omega) (by omega) (by omega) (by omega) (by omega) (by omega) (by omega) (by omega) (by omega) (by omega) hF2 (by omega) ?_ (by omega)
      have eq' : (q1 * 2 % 18446744073709551616 + q0 / 9223372036854775808) * 18446744073709551616 + (q0 * 2 % 18446744073709551616 + 1) = 2 * (q1 * 18446744073709551616 + q0) + 1 := by omega
      have eqc : (2 * (q1 * 18446744073709551616 + q0) + 1) * c = 2 * ((q1 * 18446744073709551616 + q0) * c) + c := by grind
      rw [hE2, hE, eq', eqc]
      generalize (q1 * 18446744073709551616 + q0) * c = Z at *
      omega
    by_cases ht : r / 9223372036854775808 = 1
    · rw [if_pos ht]; exact yes (by omega)
    · rw [if_neg ht]
      by_cases hge : r * 2 % 18446744073709551616 + hi / 9223372036854775808 ≥ c
      · rw [if_pos hge]; exact yes (by omega)
      · rw [if_neg hge]
        refine ih k _ _ _ _ _ (i + 1) (2 * F) (by omega) (by omega) (by omega) (by omega) (by omega) (by omega) (by omega) (by omega) (by omega) (by omega) (by omega) (by omega) hF2 (by omega) ?_ (by omega)
        have eq' : (q1 * 2 % 18446744073709551616 + q0 / 9223372036854775808) * 18446744073709551616 + (q0 * 2 % 18446744073709551616) = 2 * (q1 * 18446744073709551616 + q0) := by omega
        have eqc : (2 * (q1 * 18446744073709551616 + q0)) * c = 2 * ((q1 * 18446744073709551616 + q0) * c) := by grind
        rw [hE2, hE, eq', eqc]
        generalize (q1 * 18446744073709551616 + q0) * c = Z at *
        omega
theorem divide_f (k : Nat) (hi lo c : Int) (h0 : 0 ≤ hi) (h1 : hi ≤ 18446744073709551615) (l0 : 0 ≤ lo) (l1 : lo ≤ 18446744073709551615) (hc : 0 < c) (hc1 : c ≤ 18446744073709551615) (hk : 129 ≤ k) :
    timesyncref01_divide.f k hi lo c = some ((hi * 18446744073709551616 + lo) / c / 18446744073709551616, (hi * 18446744073709551616 + lo) / c % 18446744073709551616, (hi * 18446744073709551616 + lo) % c) := by
  unfold timesyncref01_divide.f
  exact divide_l0 (hi * 18446744073709551616 + lo) c (by omega) (by omega) hc hc1 128 k hi lo 0 0 0 0 1 h0 h1 l0 l1 (by omega) (by omega) (by omega) (by omega) (by omega) hc (by omega) (by omega) (by decide) (by omega) (by omega) (by omega)
/-- The reference's MulDiv. -/
theorem rmuldiv_f (k : Nat) (a b c : Int) (ha0 : -9223372036854775808 ≤ a) (ha1 : a ≤ 9223372036854775807) (hb0 : -9223372036854775808 ≤ b) (hb1 : b ≤ 9223372036854775807)
    (hc0 : -9223372036854775808 ≤ c) (hc1 : c ≤ 9223372036854775807) (hk : 130 ≤ k) : timesyncref01_MulDiv.f k a b c = some (md a b c) := by
  have A0 := ab_nonneg a; have A1 := ab_le ha0 ha1
  have B0 := ab_nonneg b; have B1 := ab_le hb0 hb1
  have C0 := ab_nonneg c; have C1 := ab_le hc0 hc1
  have P0 : 0 ≤ ab a * ab b := Int.mul_nonneg A0 B0
  have P1 : ab a * ab b ≤ 9223372036854775808 * 9223372036854775808 := Int.mul_le_mul A1 B1 B0 (by omega)
  unfold timesyncref01_MulDiv.f md
  by_cases hc : c = 0
  · rw [if_pos hc, if_pos hc]
  · have C2 := ab_pos hc
    rw [if_neg hc, if_neg hc]
    rw [rsize_f a ha0 ha1, rsize_f b hb0 hb1, rsize_f c hc0 hc1]
    simp only [Option.bind_some]
    rw [product_f _ _ A0 (by omega) B0 (by omega)]
    simp only [Option.bind_some]
    have hfl := fl_ab a b c hc
    generalize hn : ((decide (a < 0) != decide (b < 0)) != decide (c < 0)) = n at *
    generalize ab a * ab b = P at *
    generalize ab c = C at *
    rw [divide_f k _ _ _ (by omega) (by omega) (by omega) (by omega) C2 (by omega) (by omega)]
    simp only [Option.bind_some]
    have e : P / 18446744073709551616 * 18446744073709551616 + P % 18446744073709551616 = P := by omega
    rw [e]
    have hq0 : 0 ≤ P / C := Int.ediv_nonneg P0 C0
    have hq1 : P / C ≤ P := Int.ediv_le_self _ P0
    have hr0 := Int.emod_nonneg P (show C ≠ 0 by omega)
    generalize P / C = Q at *
    obtain ⟨k, rfl⟩ : ∃ m, k = m + 1 := ⟨k - 1, by omega⟩
    cases n with
    | true =>
      rw [if_pos rfl] at hfl
      rw [if_pos rfl]
      simp only [timesyncref01_MulDiv.j0]
      by_cases hr : P % C = 0
      · rw [if_pos hr] at hfl
        rw [if_neg (by simp [hr]), rsigned_f _ _ _ _ (by omega) (by omega) (by omega) (by omega), hfl]
        simp only [if_true, Option.bind_some]
        exact exq (by omega)
      · rw [if_neg hr] at hfl
        rw [if_pos (by simp; omega)]
        by_cases hw : Q % 18446744073709551616 = 18446744073709551615
        · rw [if_pos (by rw [hw, uw]; rfl), rsigned_f _ _ _ _ (by rw [uw]; omega) (by rw [uw]; omega) (by rw [uw]; omega) (by omega), hfl]
          simp only [if_true, Option.bind_some]
          exact exq (by simp only [uw]; omega)
        · rw [uw_in (Q % 18446744073709551616 + 1) (by omega) (by omega), if_neg (by omega), rsigned_f _ _ _ _ (by omega) (by omega) (by omega) (by omega), hfl]
          simp only [if_true, Option.bind_some]
          exact exq (by omega)
    | false =>
      rw [if_neg (by decide)] at hfl
      rw [if_neg (by decide)]
      simp only [timesyncref01_MulDiv.j0]
      rw [if_neg (by decide), rsigned_f _ _ _ _ (by omega) (by omega) (by omega) (by omega), hfl]
      simp only [Bool.false_eq_true, if_false, Option.bind_some]
      exact exq (by omega)
theorem rfloor_f (k : Nat) (a b : Int) (ha0 : -9223372036854775808 ≤ a) (ha1 : a ≤ 9223372036854775807) (hb0 : -9223372036854775808 ≤ b) (hb1 : b ≤ 9223372036854775807) (hk : 130 ≤ k) : timesyncref01_Floor.f k a b = some (md a 1 b) := by
  unfold timesyncref01_Floor.f
  rw [rmuldiv_f k a 1 b ha0 ha1 (by omega) (by omega) hb0 hb1 hk]; rfl
theorem radd_f (a b : Int) (ha0 : -9223372036854775808 ≤ a) (ha1 : a ≤ 9223372036854775807) (hb0 : -9223372036854775808 ≤ b) (hb1 : b ≤ 9223372036854775807) : timesyncref01_Add.f a b = some (ex (a + b)) := by
  unfold timesyncref01_Add.f ex
  by_cases p : b > 0
  · rw [if_pos p, iw_in (9223372036854775807 - b) (by omega) (by omega), if_neg (show ¬ b < 0 by omega)]
    by_cases h : a > 9223372036854775807 - b
    · rw [if_pos h, if_neg (by omega)]
    · rw [if_neg h, if_pos (by omega), iw_in _ (by omega) (by omega)]
  · rw [if_neg p]
    by_cases n : b < 0
    · rw [if_pos n, iw_in (-9223372036854775808 - b) (by omega) (by omega)]
      by_cases h : a < -9223372036854775808 - b
      · rw [if_pos h, if_neg (by omega)]
      · rw [if_neg h, if_pos (by omega), iw_in _ (by omega) (by omega)]
    · rw [if_neg n, if_pos (by omega), iw_in _ (by omega) (by omega)]
end Go.Proofs.Ytcnckfhibmlioaa.FxFa
