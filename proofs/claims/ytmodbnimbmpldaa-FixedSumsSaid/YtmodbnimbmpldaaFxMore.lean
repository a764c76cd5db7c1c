/- What the printed functions Floor, Ceil, Near, Add, Sub, Mul, Abs, Scale, Unscale and Sqrt are, the program's and the reference's; and that the law's wake-up examples hold. -/
import Derived.Test.YtmodbnimbmpldaaFxFns
import Derived.Test.YtmodbnimbmpldaaPFxx
namespace Go.Proofs.Ytmodbnimbmpldaa.Fx
open Go Go.RowKit Go.Proofs.Ytmodbnimbmpldaa.PFx Go.Proofs.Ytmodbnimbmpldaa.Math Go.Proofs.YtmodbnimbmpldaaW.PrintWords Go.Proofs.YtmodbnimbmpldaaW.PrintLast Go.Proofs.YtmodbnimbmpldaaW.PrintMore
set_option linter.unusedVariables false
set_option linter.unusedSimpArgs false

/-- What a quotient of two ints is made of: q, r, and the sign. -/
theorem quot (a b : Int) (ha0 : -9223372036854775808 ≤ a) (ha1 : a ≤ 9223372036854775807) (hb0 : -9223372036854775808 ≤ b) (hb1 : b ≤ 9223372036854775807) (hb : b ≠ 0)
    (hd : ¬ (a = -9223372036854775808 ∧ b = -1)) : ∃ (q r : Int) (s : Bool), (decide (a < 0) != decide (b < 0)) = s ∧ 0 ≤ q ∧ 0 ≤ r ∧ r < ab b ∧ ab a / ab b = q ∧ ab a % ab b = r ∧ (r ≠ 0 → 2 * q ≤ 9223372036854775808) ∧ q ≤ 9223372036854775808 ∧ (s = false → q ≤ 9223372036854775807) ∧
      Int.tdiv a b = (if s = true then -q else q) ∧ (Int.tmod a b = 0 ↔ r = 0) ∧
      fl (a * 1) b = (if s = true then (if r = 0 then -q else -q - 1) else q) ∧ ab (a - fl (a * 1) b * b) = (if s = true then (if r = 0 then 0 else ab b - r) else r) ∧ (fl (a * 1) b * b = a ↔ r = 0) ∧ (r = 0 → fl (a * 1) b * b = a) := by
  have C2 := ab_pos hb
  have hA0 := ab_nonneg a; have hA1 := ab_le ha0 ha1
  have hfl := fl_ab a 1 b hb
  have h1 : ab 1 = 1 := rfl
  have htd := tdiv_ab a b
  have htm := tmod_ab a b
  rw [h1, show ab a * 1 = ab a from Int.mul_one _, show decide ((1 : Int) < 0) = false from rfl] at hfl
  have e0 : (decide (a < 0) != false) = decide (a < 0) := by simp
  rw [e0] at hfl
  have hq0 : 0 ≤ ab a / ab b := Int.ediv_nonneg hA0 (by omega)
  have hq1 : ab a / ab b ≤ ab a := Int.ediv_le_self _ hA0
  have hm := Int.mul_ediv_add_emod (ab a) (ab b)
  have hr0 := Int.emod_nonneg (ab a) (show ab b ≠ 0 by omega)
  have hr1 := Int.emod_lt_of_pos (ab a) C2
  refine ⟨ab a / ab b, ab a % ab b, _, rfl, hq0, hr0, hr1, rfl, rfl, ?_, by omega, ?_, htd, ?_, hfl, ?_, ?_, ?_⟩
  · intro hr
    have := Int.mul_le_mul_of_nonneg_right (show 2 ≤ ab b by omega) hq0
    omega
  · intro hs
    by_cases hc : ab b = 1
    · have : ab a ≤ 9223372036854775807 := by
        unfold ab at hc ⊢
        by_cases x : a < 0 <;> by_cases y : b < 0 <;> simp [x, y] at hs hc ⊢ <;> omega
      omega
    · have := Int.mul_le_mul_of_nonneg_right (show 2 ≤ ab b by omega) hq0
      omega
  · rw [htm]; split <;> omega
  all_goals
    rw [hfl]
    generalize ab a / ab b = q at *
    generalize ab a % ab b = r at *
    have hea : ab a = if a < 0 then -a else a := rfl
    have heb : ab b = if b < 0 then -b else b := rfl
    rw [heb] at hm
    by_cases x : a < 0 <;> by_cases y : b < 0
  all_goals
    simp only [x, y, decide_true, decide_false, if_true, if_false, bne_self_eq_false, Bool.false_eq_true, bne_iff_ne, ne_eq, not_false_iff, Bool.true_bne, Bool.false_bne, Bool.not_true, Bool.not_false] at *
    rw [Int.mul_comm] at hm
    have k1 : q * -b = -(q * b) := Int.mul_neg _ _
    have k2 : -q * b = -(q * b) := Int.neg_mul _ _
    have k3 : (-q - 1) * b = -(q * b) - b := by rw [Int.sub_mul, Int.neg_mul, Int.one_mul]
    have k4 : ∀ z, ab z = if z < 0 then -z else z := fun _ => rfl
    (try simp only [k4])
    by_cases hr : r = 0
    all_goals
      (try simp only [hr, if_true, if_false, true_implies, false_implies, iff_true, iff_false])
      (try rw [k1] at hm)
      (try rw [k2])
      (try rw [k3])
      (try generalize q * b = Z at *)
      (try split)
      all_goals (try simp only [implies_true]) <;> omega

theorem floor_f (a b : Int) (ha0 : -9223372036854775808 ≤ a) (ha1 : a ≤ 9223372036854775807) (hb0 : -9223372036854775808 ≤ b) (hb1 : b ≤ 9223372036854775807) : fixed_Floor.f a b = some (md a 1 b) := by
  unfold fixed_Floor.f fixed_divides.f md
  by_cases hb : b = 0
  · subst hb; rfl
  · rw [if_neg hb, if_neg hb]
    by_cases hd : a = -9223372036854775808 ∧ b = -1
    · obtain ⟨rfl, rfl⟩ := hd; rfl
    · have e : (if b = -1 then some (a != -9223372036854775808) else some true : Option Bool) = some true := by
        split
        · rw [show (a != -9223372036854775808) = true from by simp; omega]
        · rfl
      rw [e]; simp only [Option.bind_some, if_true]
      rw [if_neg hb]
      obtain ⟨q, r, s, hs, q0, r0, r1, -, -, hr2, q1, hs2, htd, htm, hfl, -⟩ := quot a b ha0 ha1 hb0 hb1 hb hd
      rw [hfl, htd, hs]
      cases s with
      | true =>
        simp only [if_true] at *
        by_cases hr : r = 0
        · rw [if_pos (htm.2 hr), if_pos hr, ex_in (by omega), iw_in _ (by omega) (by omega)]
        · rw [if_neg (fun h => hr (htm.1 h)), if_neg hr, ex_in (by omega), iw_in (-q) (by omega) (by omega), iw_in (-q - 1) (by omega) (by omega)]
      | false =>
        have hs3 := hs2 rfl
        simp only [Bool.false_eq_true, if_false] at *
        rw [ex_in (by omega), iw_in _ (by omega) (by omega)]; split <;> rfl
theorem rfloor_f (k : Nat) (a b : Int) (ha0 : -9223372036854775808 ≤ a) (ha1 : a ≤ 9223372036854775807) (hb0 : -9223372036854775808 ≤ b) (hb1 : b ≤ 9223372036854775807) (hk : 130 ≤ k) : timesyncref01_Floor.f k a b = some (md a 1 b) := by
  unfold timesyncref01_Floor.f
  rw [rmuldiv_f k a 1 b ha0 ha1 (by omega) (by omega) hb0 hb1 hk]; rfl
theorem rmul_f (k : Nat) (a b : Int) (ha0 : -9223372036854775808 ≤ a) (ha1 : a ≤ 9223372036854775807) (hb0 : -9223372036854775808 ≤ b) (hb1 : b ≤ 9223372036854775807) (hk : 1 ≤ k) : timesyncref01_Mul.f k a b = some (ex (a * b)) := by
  have A0 := ab_nonneg a; have A1 := ab_le ha0 ha1
  have B0 := ab_nonneg b; have B1 := ab_le hb0 hb1
  have P0 : 0 ≤ ab a * ab b := Int.mul_nonneg A0 B0
  have P1 : ab a * ab b ≤ 9223372036854775808 * 9223372036854775808 := Int.mul_le_mul A1 B1 B0 (by omega)
  unfold timesyncref01_Mul.f
  rw [rsize_f a ha0 ha1, rsize_f b hb0 hb1]
  simp only [Option.bind_some]
  rw [product_f _ _ A0 (by omega) B0 (by omega)]
  simp only [Option.bind_some]
  rw [rsigned_f _ _ _ _ (by omega) (by omega) (by omega) hk, mul_ab a b]
  generalize ab a * ab b = P at *
  have e : P / 18446744073709551616 * 18446744073709551616 + P % 18446744073709551616 = P := by omega
  rw [e]; rfl
theorem mul_f (a b : Int) (ha0 : -9223372036854775808 ≤ a) (ha1 : a ≤ 9223372036854775807) (hb0 : -9223372036854775808 ≤ b) (hb1 : b ≤ 9223372036854775807) : fixed_Mul.f a b = some (ex (a * b)) := by
  have A0 := ab_nonneg a; have A1 := ab_le ha0 ha1
  have B0 := ab_nonneg b; have B1 := ab_le hb0 hb1
  have P0 : 0 ≤ ab a * ab b := Int.mul_nonneg A0 B0
  have P1 : ab a * ab b ≤ 9223372036854775808 * 9223372036854775808 := Int.mul_le_mul A1 B1 B0 (by omega)
  unfold fixed_Mul.f
  rw [size_f a ha0 ha1, size_f b hb0 hb1]
  simp only [Option.bind_some]
  rw [mul64_f _ _ A0 (by omega) B0 (by omega)]
  simp only [Option.bind_some]
  rw [mul_ab a b]
  generalize ab a * ab b = P at *
  by_cases h : P / 18446744073709551616 = 0
  · rw [if_pos h, signed_f _ _ (by omega) (by omega)]
    have e : P % 18446744073709551616 = P := by omega
    rw [e]; rfl
  · rw [if_neg h, ex_out (by split <;> omega)]
theorem abs_f (a : Int) (ha0 : -9223372036854775808 ≤ a) (ha1 : a ≤ 9223372036854775807) : fixed_Abs.f a = some (ex (ab a)) := by
  have A0 := ab_nonneg a; have A1 := ab_le ha0 ha1
  unfold fixed_Abs.f
  rw [size_f a ha0 ha1]; simp only [Option.bind_some]
  rw [signed_f _ _ (by omega) (by omega)]; rfl
theorem rabs_f (k : Nat) (a : Int) (ha0 : -9223372036854775808 ≤ a) (ha1 : a ≤ 9223372036854775807) (hk : 1 ≤ k) : timesyncref01_Abs.f k a = some (ex (ab a)) := by
  have A0 := ab_nonneg a; have A1 := ab_le ha0 ha1
  unfold timesyncref01_Abs.f
  rw [rsize_f a ha0 ha1]; simp only [Option.bind_some]
  rw [rsigned_f _ _ _ _ (by omega) (by omega) (by omega) hk]
  simp only [Bool.false_eq_true, if_false, Option.bind_some]
  exact exq (by omega)
theorem neg_bits (op : BinOp) (x y : Int) : bits op .i64 x y < 0 ↔ (match op with
    | .and => BitVec.ofInt 64 x &&& BitVec.ofInt 64 y
    | .or => BitVec.ofInt 64 x ||| BitVec.ofInt 64 y
    | .xor => BitVec.ofInt 64 x ^^^ BitVec.ofInt 64 y
    | _ => BitVec.ofInt 64 x &&& ~~~(BitVec.ofInt 64 y)).msb = true := by
  show IntKind.i64.wrap _ < 0 ↔ _
  have w : ∀ v : BitVec 64, IntKind.i64.wrap (v.toNat : Int) < 0 ↔ v.msb = true := by
    intro v
    have hv := v.isLt
    rw [BitVec.msb_eq_decide]
    simp only [IntKind.wrap, IntKind.bits, IntKind.signed, decide_eq_true_iff]
    simp
    split <;> omega
  exact w _
theorem msb_ofInt (x : Int) (h0 : -9223372036854775808 ≤ x) (h1 : x ≤ 9223372036854775807) : (BitVec.ofInt 64 x).msb = decide (x < 0) := by
  rw [BitVec.msb_eq_decide, BitVec.toNat_ofInt]
  apply decide_eq_decide.2
  omega
theorem xor_neg (x y : Int) (hx0 : -9223372036854775808 ≤ x) (hx1 : x ≤ 9223372036854775807) (hy0 : -9223372036854775808 ≤ y) (hy1 : y ≤ 9223372036854775807) : bits .xor .i64 x y < 0 ↔ ¬ (x < 0 ↔ y < 0) := by
  rw [neg_bits]; simp only [BitVec.msb_xor, msb_ofInt x hx0 hx1, msb_ofInt y hy0 hy1]
  by_cases a : x < 0 <;> by_cases b : y < 0 <;> simp [a, b]
theorem and_neg (x y : Int) (hx0 : -9223372036854775808 ≤ x) (hx1 : x ≤ 9223372036854775807) (hy0 : -9223372036854775808 ≤ y) (hy1 : y ≤ 9223372036854775807) : bits .and .i64 x y < 0 ↔ (x < 0 ∧ y < 0) := by
  rw [neg_bits]; simp only [BitVec.msb_and, msb_ofInt x hx0 hx1, msb_ofInt y hy0 hy1]
  by_cases a : x < 0 <;> by_cases b : y < 0 <;> simp [a, b]
theorem bits_in (op : BinOp) (x y : Int) : -9223372036854775808 ≤ bits op .i64 x y ∧ bits op .i64 x y ≤ 9223372036854775807 := by
  have w : ∀ n : Int, -9223372036854775808 ≤ IntKind.i64.wrap n ∧ IntKind.i64.wrap n ≤ 9223372036854775807 := by
    intro n; simp only [IntKind.wrap, IntKind.bits, IntKind.signed]; simp; split <;> omega
  exact w _
theorem add_f (a b : Int) (ha0 : -9223372036854775808 ≤ a) (ha1 : a ≤ 9223372036854775807) (hb0 : -9223372036854775808 ≤ b) (hb1 : b ≤ 9223372036854775807) : fixed_Add.f a b = some (ex (a + b)) := by
  have hw : -9223372036854775808 ≤ wrap64 (a + b) ∧ wrap64 (a + b) ≤ 9223372036854775807 := by rw [iw]; omega
  have t : bits .and .i64 (bits .xor .i64 a (wrap64 (a + b))) (bits .xor .i64 b (wrap64 (a + b))) < 0 ↔ ¬ (-9223372036854775808 ≤ a + b ∧ a + b ≤ 9223372036854775807) := by
    rw [and_neg _ _ (bits_in _ _ _).1 (bits_in _ _ _).2 (bits_in _ _ _).1 (bits_in _ _ _).2, xor_neg _ _ ha0 ha1 hw.1 hw.2, xor_neg _ _ hb0 hb1 hw.1 hw.2, iw]
    omega
  unfold fixed_Add.f
  by_cases h : -9223372036854775808 ≤ a + b ∧ a + b ≤ 9223372036854775807
  · rw [if_neg (fun x => t.1 x h), ex_in h, iw_in _ h.1 h.2]
  · rw [if_pos (t.2 h), ex_out h]
theorem sub_f (a b : Int) (ha0 : -9223372036854775808 ≤ a) (ha1 : a ≤ 9223372036854775807) (hb0 : -9223372036854775808 ≤ b) (hb1 : b ≤ 9223372036854775807) : fixed_Sub.f a b = some (ex (a - b)) := by
  have hw : -9223372036854775808 ≤ wrap64 (a - b) ∧ wrap64 (a - b) ≤ 9223372036854775807 := by rw [iw]; omega
  have t : bits .and .i64 (bits .xor .i64 a b) (bits .xor .i64 a (wrap64 (a - b))) < 0 ↔ ¬ (-9223372036854775808 ≤ a - b ∧ a - b ≤ 9223372036854775807) := by
    rw [and_neg _ _ (bits_in _ _ _).1 (bits_in _ _ _).2 (bits_in _ _ _).1 (bits_in _ _ _).2, xor_neg _ _ ha0 ha1 hw.1 hw.2, xor_neg _ _ ha0 ha1 hb0 hb1, iw]
    omega
  unfold fixed_Sub.f
  by_cases h : -9223372036854775808 ≤ a - b ∧ a - b ≤ 9223372036854775807
  · rw [if_neg (fun x => t.1 x h), ex_in h, iw_in _ h.1 h.2]
  · rw [if_pos (t.2 h), ex_out h]
theorem radd_f (a b : Int) (ha0 : -9223372036854775808 ≤ a) (ha1 : a ≤ 9223372036854775807) (hb0 : -9223372036854775808 ≤ b) (hb1 : b ≤ 9223372036854775807) : timesyncref01_Add.f a b = some (ex (a + b)) := by
  unfold timesyncref01_Add.f ex
  by_cases p : b > 0
  · rw [if_pos p, iw_in (9223372036854775807 - b) (by omega) (by omega), if_neg (show ¬ b < 0 by omega)]
    by_cases h : a > 9223372036854775807 - b
    · rw [if_pos h, if_neg (by omega)]
    · rw [if_neg h, if_pos (by omega), iw_in _ (by omega) (by omega)]
  · rw [if_neg p]
    by_cases n : b < 0
    · rw [if_pos n, iw_in (-9223372036854775808 - b) (by omega) (by omega)]
      by_cases h : a < -9223372036854775808 - b
      · rw [if_pos h, if_neg (by omega)]
      · rw [if_neg h, if_pos (by omega), iw_in _ (by omega) (by omega)]
    · rw [if_neg n, if_pos (by omega), iw_in _ (by omega) (by omega)]
theorem rsub_f (a b : Int) (ha0 : -9223372036854775808 ≤ a) (ha1 : a ≤ 9223372036854775807) (hb0 : -9223372036854775808 ≤ b) (hb1 : b ≤ 9223372036854775807) : timesyncref01_Sub.f a b = some (ex (a - b)) := by
  unfold timesyncref01_Sub.f ex
  by_cases p : b < 0
  · rw [if_pos p, iw_in (9223372036854775807 + b) (by omega) (by omega), if_neg (show ¬ b > 0 by omega)]
    by_cases h : a > 9223372036854775807 + b
    · rw [if_pos h, if_neg (by omega)]
    · rw [if_neg h, if_pos (by omega), iw_in _ (by omega) (by omega)]
  · rw [if_neg p]
    by_cases n : b > 0
    · rw [if_pos n, iw_in (-9223372036854775808 + b) (by omega) (by omega)]
      by_cases h : a < -9223372036854775808 + b
      · rw [if_pos h, if_neg (by omega)]
      · rw [if_neg h, if_pos (by omega), iw_in _ (by omega) (by omega)]
    · rw [if_neg n, if_pos (by omega), iw_in _ (by omega) (by omega)]
/-- The quotient rounded up, checked. -/
def ce (a b : Int) : Int × Bool := if b = 0 then (0, false) else if a = -9223372036854775808 ∧ b = -1 then (0, false) else if Int.tmod a b = 0 then (fl (a * 1) b, true) else (fl (a * 1) b + 1, true)
theorem md_bad (b : Int) : md (-9223372036854775808) 1 (-1) = (0, false) := rfl
/-- Where the quotient is an int. -/
theorem md_ok (a b : Int) (ha0 : -9223372036854775808 ≤ a) (ha1 : a ≤ 9223372036854775807) (hb0 : -9223372036854775808 ≤ b) (hb1 : b ≤ 9223372036854775807) (hb : b ≠ 0)
    (hd : ¬ (a = -9223372036854775808 ∧ b = -1)) : -9223372036854775808 ≤ fl (a * 1) b ∧ fl (a * 1) b ≤ 9223372036854775807 ∧ md a 1 b = (fl (a * 1) b, true) ∧ (Int.tmod a b ≠ 0 → fl (a * 1) b + 1 ≤ 4611686018427387905) := by
  obtain ⟨q, r, s, hs, q0, r0, r1, -, -, hr2, q1, hs2, htd, htm, hfl, -⟩ := quot a b ha0 ha1 hb0 hb1 hb hd
  have hm : -9223372036854775808 ≤ fl (a * 1) b ∧ fl (a * 1) b ≤ 9223372036854775807 ∧ (Int.tmod a b ≠ 0 → fl (a * 1) b + 1 ≤ 4611686018427387905) := by
    rw [hfl]
    cases s with
    | true =>
      simp only [if_true]
      by_cases hr : r = 0
      · rw [if_pos hr]; exact ⟨by omega, by omega, fun h => absurd (htm.2 hr) h⟩
      · rw [if_neg hr]; have := hr2 hr; exact ⟨by omega, by omega, fun h => by omega⟩
    | false =>
      have hs3 := hs2 rfl
      simp only [Bool.false_eq_true, if_false]
      refine ⟨by omega, by omega, fun h => ?_⟩
      have := hr2 (fun h' => h (htm.2 h')); omega
  refine ⟨hm.1, hm.2.1, ?_, hm.2.2⟩
  unfold md; rw [if_neg hb, ex_in ⟨hm.1, hm.2.1⟩]
theorem divides_ok (a b : Int) (hb : b ≠ 0) (hd : ¬ (a = -9223372036854775808 ∧ b = -1)) : fixed_divides.f a b = some true := by
  unfold fixed_divides.f
  rw [if_neg hb]
  split
  · rw [show (a != -9223372036854775808) = true from by simp; omega]
  · rfl
theorem ceil_f (a b : Int) (ha0 : -9223372036854775808 ≤ a) (ha1 : a ≤ 9223372036854775807) (hb0 : -9223372036854775808 ≤ b) (hb1 : b ≤ 9223372036854775807) : fixed_Ceil.f a b = some (ce a b) := by
  unfold fixed_Ceil.f ce
  by_cases hb : b = 0
  · subst hb; rfl
  · by_cases hd : a = -9223372036854775808 ∧ b = -1
    · obtain ⟨rfl, rfl⟩ := hd; rfl
    · rw [divides_ok a b hb hd, if_neg hb, if_neg hd]
      simp only [Option.bind_some, if_true]
      rw [if_neg hb]
      obtain ⟨q, r, s, hs, q0, r0, r1, -, -, hr2, q1, hs2, htd, htm, hfl, -⟩ := quot a b ha0 ha1 hb0 hb1 hb hd
      have hs' : (decide (a < 0) == decide (b < 0)) = !s := by rw [← hs]; cases decide (a < 0) <;> cases decide (b < 0) <;> rfl
      rw [hfl, htd, hs']
      cases s with
      | true =>
        simp only [if_true, Bool.not_true, Bool.false_eq_true, if_false]
        by_cases hr : r = 0
        · rw [if_pos (htm.2 hr), if_pos (htm.2 hr), if_pos hr, iw_in (-q) (by omega) (by omega)]
        · have := hr2 hr
          rw [if_neg (fun h => hr (htm.1 h)), if_neg (fun h => hr (htm.1 h)), if_neg hr, iw_in (-q) (by omega) (by omega)]
          refine congrArg some (Prod.ext ?_ rfl); simp only; omega
      | false =>
        have hs3 := hs2 rfl
        simp only [Bool.false_eq_true, if_false, Bool.not_false, if_true]
        by_cases hr : r = 0
        · rw [if_pos (htm.2 hr), if_pos (htm.2 hr), iw_in q (by omega) (by omega)]
        · have := hr2 hr
          rw [if_neg (fun h => hr (htm.1 h)), if_neg (fun h => hr (htm.1 h)), iw_in q (by omega) (by omega), iw_in (q + 1) (by omega) (by omega)]
theorem rceil_f (k : Nat) (a b : Int) (ha0 : -9223372036854775808 ≤ a) (ha1 : a ≤ 9223372036854775807) (hb0 : -9223372036854775808 ≤ b) (hb1 : b ≤ 9223372036854775807) (hk : 130 ≤ k) : timesyncref01_Ceil.f k a b = some (ce a b) := by
  unfold timesyncref01_Ceil.f
  rw [rfloor_f k a b ha0 ha1 hb0 hb1 hk]
  simp only [Option.bind_some]
  unfold ce
  by_cases hb : b = 0
  · subst hb; rfl
  · by_cases hd : a = -9223372036854775808 ∧ b = -1
    · obtain ⟨rfl, rfl⟩ := hd; rfl
    · obtain ⟨f0, f1, fm, f2⟩ := md_ok a b ha0 ha1 hb0 hb1 hb hd
      obtain ⟨q, r, s, hs, q0, r0, r1, -, -, hr2, q1, hs2, htd, htm, hfl, -, hex, hex2⟩ := quot a b ha0 ha1 hb0 hb1 hb hd
      rw [fm, if_neg hb, if_neg hd]
      simp only [if_true]
      rw [rmul_f k _ _ f0 f1 hb0 hb1 (by omega)]
      simp only [Option.bind_some]
      by_cases hr : r = 0
      · rw [hex2 hr, ex_in ⟨ha0, ha1⟩]; simp only [if_true]; rw [if_pos (htm.2 hr)]
      · have hne : ¬ fl (a * 1) b * b = a := fun h => hr (hex.1 h)
        have ht : Int.tmod a b ≠ 0 := fun h => hr (htm.1 h)
        have := f2 ht
        rw [if_neg ht]
        have hadd : timesyncref01_Add.f (fl (a * 1) b) 1 = some (fl (a * 1) b + 1, true) := by
          rw [radd_f _ _ f0 f1 (by omega) (by omega), ex_in (by omega)]
        rw [hadd]
        simp only [Option.bind_some]
        by_cases hin : -9223372036854775808 ≤ fl (a * 1) b * b ∧ fl (a * 1) b * b ≤ 9223372036854775807
        · rw [ex_in hin]; simp only [if_true]; rw [if_neg hne]
        · rw [ex_out hin]; simp only [Bool.false_eq_true, if_false]

/-- The rest of the quotient rounded down: its size. -/
def rs (a b : Int) : Int := ab (a - fl (a * 1) b * b)
/-- The nearest quotient. -/
def nr (a b : Int) : Int × Bool := if b = 0 then (0, false) else if a = -9223372036854775808 ∧ b = -1 then (0, false) else
  if rs a b > ab b - rs a b then (fl (a * 1) b + 1, true) else if rs a b = ab b - rs a b then (if Int.tmod (fl (a * 1) b) 2 = 0 then (fl (a * 1) b, true) else (fl (a * 1) b + 1, true)) else (fl (a * 1) b, true)
theorem rs_b (a b : Int) (ha0 : -9223372036854775808 ≤ a) (ha1 : a ≤ 9223372036854775807) (hb0 : -9223372036854775808 ≤ b) (hb1 : b ≤ 9223372036854775807) (hb : b ≠ 0)
    (hd : ¬ (a = -9223372036854775808 ∧ b = -1)) : 0 ≤ rs a b ∧ rs a b < ab b ∧ (rs a b ≠ 0 → Int.tmod a b ≠ 0) := by
  obtain ⟨q, r, s, hs, q0, r0, r1, -, -, hr2, q1, hs2, htd, htm, hfl, hrs, hex, hex2⟩ := quot a b ha0 ha1 hb0 hb1 hb hd
  unfold rs; rw [hrs]
  cases s with
  | true =>
    simp only [if_true]
    by_cases hr : r = 0
    · rw [if_pos hr]; exact ⟨by omega, by omega, fun h => absurd rfl h⟩
    · rw [if_neg hr]; exact ⟨by omega, by omega, fun _ h => hr (htm.1 h)⟩
  | false => simp only [Bool.false_eq_true, if_false]; exact ⟨r0, r1, fun h h' => h (htm.1 h')⟩
theorem near_f (a b : Int) (ha0 : -9223372036854775808 ≤ a) (ha1 : a ≤ 9223372036854775807) (hb0 : -9223372036854775808 ≤ b) (hb1 : b ≤ 9223372036854775807) : fixed_Near.f a b = some (nr a b) := by
  unfold fixed_Near.f
  rw [floor_f a b ha0 ha1 hb0 hb1]
  simp only [Option.bind_some]
  unfold nr
  by_cases hb : b = 0
  · subst hb; rfl
  · by_cases hd : a = -9223372036854775808 ∧ b = -1
    · obtain ⟨rfl, rfl⟩ := hd; rfl
    · obtain ⟨f0, f1, fm, f2⟩ := md_ok a b ha0 ha1 hb0 hb1 hb hd
      obtain ⟨r0, r1, r2⟩ := rs_b a b ha0 ha1 hb0 hb1 hb hd
      have B1 := ab_le hb0 hb1
      have hw : wrap64 (a - wrap64 (fl (a * 1) b * b)) = a - fl (a * 1) b * b := by
        have hrs : rs a b = ab (a - fl (a * 1) b * b) := rfl
        unfold ab at hrs r1 B1
        generalize fl (a * 1) b * b = Z at *
        simp only [iw]
        by_cases x : a - Z < 0 <;> by_cases y : b < 0 <;> simp only [x, y, if_true, if_false] at hrs r1 B1 <;> omega
      have hin : -9223372036854775808 ≤ a - fl (a * 1) b * b ∧ a - fl (a * 1) b * b ≤ 9223372036854775807 := by rw [← hw, iw]; omega
      rw [fm, if_neg hb, if_neg hd]
      simp only [if_true]
      rw [hw, size_f _ hin.1 hin.2, size_f b hb0 hb1]
      simp only [Option.bind_some]
      show (if rs a b > IntKind.u64.wrap (ab b - rs a b) then _ else if rs a b = IntKind.u64.wrap (ab b - rs a b) then _ else _) = _
      rw [uw_in _ (by omega) (by omega)]
      by_cases h1 : rs a b > ab b - rs a b
      · rw [if_pos h1, if_pos h1, iw_in _ (by omega) (by have := f2 (r2 (by omega)); omega)]
      · rw [if_neg h1, if_neg h1]
        by_cases h2 : rs a b = ab b - rs a b
        · rw [if_pos h2, if_pos h2]
          have := f2 (r2 (by have := ab_pos hb; omega))
          rw [iw_in (fl (a * 1) b + 1) (by omega) (by omega)]
          split <;> rfl
        · rw [if_neg h2, if_neg h2]
theorem rnear_f (k : Nat) (a b : Int) (ha0 : -9223372036854775808 ≤ a) (ha1 : a ≤ 9223372036854775807) (hb0 : -9223372036854775808 ≤ b) (hb1 : b ≤ 9223372036854775807) (hk : 132 ≤ k) : timesyncref01_Near.f k a b = some (nr a b) := by
  unfold timesyncref01_Near.f
  rw [rfloor_f k a b ha0 ha1 hb0 hb1 (by omega)]
  simp only [Option.bind_some]
  unfold nr
  by_cases hb : b = 0
  · subst hb; rfl
  · by_cases hd : a = -9223372036854775808 ∧ b = -1
    · obtain ⟨rfl, rfl⟩ := hd; rfl
    · obtain ⟨f0, f1, fm, f2⟩ := md_ok a b ha0 ha1 hb0 hb1 hb hd
      obtain ⟨r0, r1, r2⟩ := rs_b a b ha0 ha1 hb0 hb1 hb hd
      have B1 := ab_le hb0 hb1
      have B2 := ab_pos hb
      have A1 := ab_le ha0 ha1
      have A0 := ab_nonneg a
      obtain ⟨q, r, s, hs, q0, s0, s1, hQ, hR, hr2, q1, hs2, htd, htm, hfl, hrs, hex, hex2⟩ := quot a b ha0 ha1 hb0 hb1 hb hd
      rw [fm, if_neg hb, if_neg hd]
      simp only [if_true]
      rw [rsize_f a ha0 ha1, rsize_f b hb0 hb1]
      simp only [Option.bind_some]
      rw [divide_f k 0 _ _ (by omega) (by omega) A0 (by omega) B2 (by omega) (by omega)]
      simp only [Option.bind_some, Int.zero_mul, Int.zero_add]
      obtain ⟨k, rfl⟩ : ∃ m, k = m + 2 := ⟨k - 2, by omega⟩
      have hadd : (rs a b ≠ 0) → timesyncref01_Add.f (fl (a * 1) b) 1 = some (fl (a * 1) b + 1, true) := by
        intro h; have := f2 (r2 h)
        rw [radd_f _ _ f0 f1 (by omega) (by omega), ex_in (by omega)]
      have j1 : ∀ k, timesyncref01_Near.j1 (k + 1) b (fl (a * 1) b) (rs a b) = some (if rs a b > ab b - rs a b then (fl (a * 1) b + 1, true) else if rs a b = ab b - rs a b then (if Int.tmod (fl (a * 1) b) 2 = 0 then (fl (a * 1) b, true) else (fl (a * 1) b + 1, true)) else (fl (a * 1) b, true)) := by
        intro k
        simp only [timesyncref01_Near.j1]
        rw [rsize_f b hb0 hb1]; simp only [Option.bind_some]
        rw [uw_in (ab b - rs a b) (by omega) (by omega)]
        by_cases h1 : rs a b > ab b - rs a b
        · rw [if_pos h1, if_pos h1, hadd (by omega)]; rfl
        · rw [if_neg h1, if_neg h1]
          by_cases h2 : rs a b = ab b - rs a b
          · rw [if_pos h2, if_pos h2, hadd (by omega)]
            split <;> rfl
          · rw [if_neg h2, if_neg h2]
      rw [hR, hs]
      have hrs' : rs a b = if s = true then if r = 0 then 0 else ab b - r else r := hrs
      by_cases hr : r > 0
      · rw [if_pos hr]
        cases s with
        | true =>
          simp only [if_true] at hrs'
          rw [if_neg (by omega)] at hrs'
          have hk2 : k + 2 = (k + 1) + 1 := rfl
          rw [hk2]; simp only [timesyncref01_Near.j0, if_true]
          rw [rsize_f b hb0 hb1]; simp only [Option.bind_some]
          rw [uw_in (ab b - r) (by omega) (by omega), ← hrs']; exact j1 _
        | false =>
          simp only [Bool.false_eq_true, if_false] at hrs'
          have hk2 : k + 2 = (k + 1) + 1 := rfl
          rw [hk2]; simp only [timesyncref01_Near.j0, Bool.false_eq_true, if_false]
          rw [← hrs']; exact j1 _
      · have h0 : r = 0 := by omega
        have hz : rs a b = r := by rw [hrs']; split <;> omega
        rw [if_neg hr]
        have hk2 : k + 2 = (k + 1) + 1 := rfl
        rw [hk2]; simp only [timesyncref01_Near.j0, Bool.false_eq_true, if_false]
        rw [← hz]; exact j1 _

/-- Sqrt's loop: d bits are left. -/
theorem sqrt_l0 (n : Int) (h0 : 0 ≤ n) (h1 : n ≤ 9223372036854775807) (d : Nat) (hd : d ≤ 32) : ∀ (k : Nat) (r i G : Int), d + 1 ≤ k → i = 32 - (d : Int) → G = ((2 ^ d : Nat) : Int) → 0 ≤ r → r % G = 0 → r + G ≤ 4294967296 → r * r ≤ n → n < (r + G) * (r + G) →
    ∃ s, fixed_Sqrt.l0 k n r i = some (s, true) ∧ 0 ≤ s ∧ s ≤ 4294967295 ∧ s * s ≤ n ∧ n < (s + 1) * (s + 1) := by
  induction d with
  | zero =>
    intro k r i G hk hi hG r0 _ rG rr rn
    obtain ⟨k, rfl⟩ : ∃ m, k = m + 1 := ⟨k - 1, by omega⟩
    obtain rfl : G = 1 := hG
    refine ⟨r, ?_, r0, by omega, rr, rn⟩
    simp only [fixed_Sqrt.l0]
    rw [if_neg (by omega), iw_in _ (by omega) (by omega)]
  | succ d ih =>
    intro k r i G hk hi hG r0 rm rG rr rn
    obtain ⟨k, rfl⟩ : ∃ m, k = m + 1 := ⟨k - 1, by omega⟩
    obtain ⟨K, hK⟩ : ∃ K : Int, K = ((2 ^ d : Nat) : Int) := ⟨_, rfl⟩
    have hK0 : 0 < K := by rw [hK]; have := Nat.two_pow_pos d; omega
    have hGK : G = K * 2 := by rw [hG, hK, Nat.pow_succ]; omega
    simp only [fixed_Sqrt.l0]
    rw [if_pos (by omega), iw_in (31 - i) (by omega) (by omega), iw_in (i + 1) (by omega) (by omega), if_pos (by omega)]
    have es : shl .u64 1 (31 - i) = K := by
      rw [shl64 _ _ (by omega), show (31 - i).toNat = d by omega, Int.one_mul]
      rw [show (2 : Int) ^ d = K by rw [hK]; simp]
      omega
    have ho : bits .or .u64 r K = r + K := by
      have e : (2 : Int) ^ (d + 1) = G := by rw [hG]; simp
      exact or_add r K (d + 1) r0 (by omega) (by omega) (by rw [e]; exact rm) (by rw [e]; omega) (by omega)
    rw [es, ho, uw_in n (by omega) (by omega)]
    have hsq0 : 0 ≤ (r + K) * (r + K) := Int.mul_nonneg (by omega) (by omega)
    have hsq1 : (r + K) * (r + K) ≤ 4294967295 * 4294967295 := Int.mul_le_mul (by omega) (by omega) (by omega) (by omega)
    rw [uw_in ((r + K) * (r + K)) hsq0 (by omega)]
    have rK : r % K = 0 := by
      rw [hGK] at rm
      have : K ∣ r := Int.dvd_trans ⟨2, rfl⟩ (Int.dvd_of_emod_eq_zero rm)
      exact Int.emod_eq_zero_of_dvd this
    by_cases h : (r + K) * (r + K) ≤ n
    · rw [if_pos h]
      refine ih (by omega) k (r + K) (i + 1) K (by omega) (by omega) hK (by omega) ?_ (by omega) h ?_
      · rw [Int.add_emod_right]; exact rK
      · have e : r + K + K = r + G := by omega
        rw [e]; exact rn
    · rw [if_neg h]
      exact ih (by omega) k r (i + 1) K (by omega) (by omega) hK r0 rK (by omega) rr (by omega)
theorem sqrt_f (k : Nat) (n : Int) (h0 : 0 ≤ n) (h1 : n ≤ 9223372036854775807) (hk : 33 ≤ k) : ∃ s, fixed_Sqrt.f k n = some (s, true) ∧ 0 ≤ s ∧ s ≤ 4294967295 ∧ s * s ≤ n ∧ n < (s + 1) * (s + 1) := by
  unfold fixed_Sqrt.f
  rw [if_neg (by omega)]
  exact sqrt_l0 n h0 h1 32 (by omega) k 0 0 4294967296 hk (by omega) rfl (by omega) (by omega) (by omega) (by omega) (by omega)

theorem scale_f (k : Nat) (n p : Int) (hn0 : -9223372036854775808 ≤ n) (hn1 : n ≤ 9223372036854775807) (hp0 : -9223372036854775808 ≤ p) (hp1 : p ≤ 9223372036854775807) (hk : 10 ≤ k) :
    fixed_Scale.f k n p = some (if -500000 ≤ p ∧ p ≤ 500000 then md n (1000000000 + p) 1000000000 else (0, false)) := by
  unfold fixed_Scale.f fixed_isRate.f
  by_cases a : p ≥ -500000
  · rw [if_pos a]; simp only [Option.bind_some, decide_eq_true_iff]
    by_cases b : p ≤ 500000
    · rw [if_pos b, if_pos ⟨a, b⟩, iw_in _ (by omega) (by omega), muldiv_f k _ _ _ hn0 hn1 (by omega) (by omega) (by omega) (by omega) hk]; rfl
    · rw [if_neg b, if_neg (by omega)]
  · rw [if_neg a, if_neg (by omega)]; rfl
theorem unscale_f (k : Nat) (n p : Int) (hn0 : -9223372036854775808 ≤ n) (hn1 : n ≤ 9223372036854775807) (hp0 : -9223372036854775808 ≤ p) (hp1 : p ≤ 9223372036854775807) (hk : 10 ≤ k) :
    fixed_Unscale.f k n p = some (if -500000 ≤ p ∧ p ≤ 500000 then md n 1000000000 (1000000000 + p) else (0, false)) := by
  unfold fixed_Unscale.f fixed_isRate.f
  by_cases a : p ≥ -500000
  · rw [if_pos a]; simp only [Option.bind_some, decide_eq_true_iff]
    by_cases b : p ≤ 500000
    · rw [if_pos b, if_pos ⟨a, b⟩, iw_in _ (by omega) (by omega), muldiv_f k _ _ _ hn0 hn1 (by omega) (by omega) (by omega) (by omega) hk]; rfl
    · rw [if_neg b, if_neg (by omega)]
  · rw [if_neg a, if_neg (by omega)]; rfl
theorem rscale_f (k : Nat) (n p : Int) (hn0 : -9223372036854775808 ≤ n) (hn1 : n ≤ 9223372036854775807) (hp0 : -9223372036854775808 ≤ p) (hp1 : p ≤ 9223372036854775807) (hk : 130 ≤ k) :
    timesyncref01_Scale.f k n p = some (if -500000 ≤ p ∧ p ≤ 500000 then md n (1000000000 + p) 1000000000 else (0, false)) := by
  unfold timesyncref01_Scale.f
  by_cases a : p < -500000
  · rw [if_pos a, if_neg (by omega)]
  · rw [if_neg a]
    by_cases b : p > 500000
    · rw [if_pos b, if_neg (by omega)]
    · rw [if_neg b, if_pos (by omega), iw_in _ (by omega) (by omega), rmuldiv_f k _ _ _ hn0 hn1 (by omega) (by omega) (by omega) (by omega) hk]; rfl
theorem runscale_f (k : Nat) (n p : Int) (hn0 : -9223372036854775808 ≤ n) (hn1 : n ≤ 9223372036854775807) (hp0 : -9223372036854775808 ≤ p) (hp1 : p ≤ 9223372036854775807) (hk : 130 ≤ k) :
    timesyncref01_Unscale.f k n p = some (if -500000 ≤ p ∧ p ≤ 500000 then md n 1000000000 (1000000000 + p) else (0, false)) := by
  unfold timesyncref01_Unscale.f
  by_cases a : p < -500000
  · rw [if_pos a, if_neg (by omega)]
  · rw [if_neg a]
    by_cases b : p > 500000
    · rw [if_pos b, if_neg (by omega)]
    · rw [if_neg b, if_pos (by omega), iw_in _ (by omega) (by omega), rmuldiv_f k _ _ _ hn0 hn1 (by omega) (by omega) (by omega) (by omega) hk]; rfl

/-- The law's wake-up examples. -/
theorem awake_f (k : Nat) (hk : 33 ≤ k) : timesynclaw01_awake.f k = some true := by
  obtain ⟨s, hs, s0, -, s1, s2⟩ := sqrt_f k 99 (by omega) (by omega) hk
  have h9 : s = 9 := by
    have a : s ≤ 9 := by
      apply Int.not_lt.1; intro h
      have := Int.mul_le_mul (show (10 : Int) ≤ s by omega) (show (10 : Int) ≤ s by omega) (by omega) s0
      omega
    have b : 9 ≤ s := by
      apply Int.not_lt.1; intro h
      have := Int.mul_le_mul (show s + 1 ≤ (9 : Int) by omega) (show s + 1 ≤ (9 : Int) by omega) (by omega) (by omega)
      omega
    omega
  subst h9
  unfold timesynclaw01_awake.f
  rw [floor_f (-7) 2 (by omega) (by omega) (by omega) (by omega), ceil_f (-7) 2 (by omega) (by omega) (by omega) (by omega), near_f (-7) 2 (by omega) (by omega) (by omega) (by omega), near_f 5 2 (by omega) (by omega) (by omega) (by omega),
    floor_f (-9223372036854775808) (-1) (by omega) (by omega) (by omega) (by omega), muldiv_f k _ _ _ (by omega) (by omega) (by omega) (by omega) (by omega) (by omega) (by omega), hs,
    scale_f k _ _ (by omega) (by omega) (by omega) (by omega) (by omega), unscale_f k _ _ (by omega) (by omega) (by omega) (by omega) (by omega)]
  rfl
end Go.Proofs.Ytmodbnimbmpldaa.Fx
