/- What the words' product and quotient of the printed functions are: bits.Mul64, bits.Len64, bits.Div64. -/
import Derived.Test.YtmodbnimbmpldaaMath
import Derived.Test.YtmodbnimbmpldaaPFxx3
namespace Go.Proofs.Ytmodbnimbmpldaa.Fx
set_option linter.unusedVariables false
set_option linter.unusedSimpArgs false
open Go Go.RowKit Go.Proofs.Ytmodbnimbmpldaa.PFx Go.Proofs.Ytmodbnimbmpldaa.Math Go.Proofs.YtmodbnimbmpldaaW.PrintWords Go.Proofs.YtmodbnimbmpldaaW.PrintLast Go.Proofs.YtmodbnimbmpldaaW.PrintMore

theorem mul64_f (a b : Int) (ha0 : 0 ≤ a) (ha : a ≤ 18446744073709551615) (hb0 : 0 ≤ b) (hb : b ≤ 18446744073709551615) :
    bits_Mul64.f a b = some (a * b / 18446744073709551616, a * b % 18446744073709551616) := by
  unfold bits_Mul64.f
  rw [and_low32 a ha0 (by omega), and_low32 b hb0 (by omega)]
  have h := mul64_arith a b ha0 (by omega) hb0 (by omega)
  rw [and_low32 (IntKind.u64.wrap _) (by rw [uw]; omega) (by rw [uw]; omega)]
  simp only [uw]
  rw [h]

/-- The second digit. -/
theorem l1_f (y s yn1 yn0 un0 q1 un21 : Int) (hy : y = yn1 * 4294967296 + yn0) (hy1 : 2147483648 ≤ yn1) (hy2 : yn1 ≤ 4294967295) (h00 : 0 ≤ yn0) (h01 : yn0 ≤ 4294967295)
    (hs0 : 0 ≤ s) (hu0 : 0 ≤ un0) (hu1 : un0 ≤ 4294967295) (hr0 : 0 ≤ un21) (hr1 : un21 < y) (hq0 : 0 ≤ q1) (hq1 : q1 ≤ 4294967295) (d : Nat) :
    ∀ (k : Nat) (r q : Int), 0 ≤ r → r ≤ 4294967295 → un21 = q * yn1 + r → q ≤ 4294967297 → (un21 * 4294967296 + un0) / y ≤ q → 4294967296 ≤ r + d * 2147483648 → 2 * d ≤ k →
    bits_Div64.l1 k y s yn1 yn0 un0 q1 r un21 q = some (q1 * 4294967296 + (un21 * 4294967296 + un0) / y, shr .u64 ((un21 * 4294967296 + un0) % y) s) := by
  have hypos : 0 < y := by omega
  have hQ0 : 0 ≤ (un21 * 4294967296 + un0) / y := Int.ediv_nonneg (by omega) (by omega)
  have hQ1 : (un21 * 4294967296 + un0) / y < 4294967296 := lt_of_mul hypos (by omega)
  have hmod := Int.mul_ediv_add_emod (un21 * 4294967296 + un0) y
  have hm0 := Int.emod_nonneg (un21 * 4294967296 + un0) (show y ≠ 0 by omega)
  have hm1 := Int.emod_lt_of_pos (un21 * 4294967296 + un0) hypos
  induction d with
  | zero => intro k r q _ _ _ _ _ h; omega
  | succ d ih =>
    intro k r q r0 r1 hq hqB hqQ hd hk
    obtain ⟨k, rfl⟩ : ∃ m, k = m + 2 := ⟨k - 2, by omega⟩
    have fin : ∀ (Q : Int), (un21 * 4294967296 + un0) / y = Q → (some (IntKind.u64.wrap ((IntKind.u64.wrap (q1 * 4294967296)) + Q), shr .u64 (IntKind.u64.wrap ((IntKind.u64.wrap ((IntKind.u64.wrap (un21 * 4294967296)) + un0)) - (IntKind.u64.wrap (Q * y)))) s) : Option (Int × Int)) = some (q1 * 4294967296 + (un21 * 4294967296 + un0) / y, shr .u64 ((un21 * 4294967296 + un0) % y) s) := by
      intro Q hQ
      rw [hQ] at hmod hQ0 hQ1 ⊢
      have e1 : IntKind.u64.wrap ((IntKind.u64.wrap (q1 * 4294967296)) + Q) = q1 * 4294967296 + Q := by simp only [uw]; omega
      have e2 : IntKind.u64.wrap ((IntKind.u64.wrap ((IntKind.u64.wrap (un21 * 4294967296)) + un0)) - (IntKind.u64.wrap (Q * y))) = (un21 * 4294967296 + un0) % y := by
        rw [Int.mul_comm Q y]; generalize y * Q = P at *; generalize (un21 * 4294967296 + un0) % y = R at *
        simp only [uw]; omega
      rw [e1, e2]
    have wq : ∀ (b : Bool), (b = true ↔ (un21 * 4294967296 + un0) / y < q) → bits_Div64.j4 (k + 1) y s yn1 yn0 un0 q1 r un21 q b = some (q1 * 4294967296 + (un21 * 4294967296 + un0) / y, shr .u64 ((un21 * 4294967296 + un0) % y) s) := by
      intro b hb
      cases b with
      | true =>
        have hlt : (un21 * 4294967296 + un0) / y < q := hb.1 rfl
        simp only [bits_Div64.j4, if_true]
        rw [uw_in (q - 1) (by omega) (by omega), uw_in (r + yn1) (by omega) (by omega)]
        by_cases hB : r + yn1 ≥ 4294967296
        · rw [if_pos hB, if_pos hs0]
          apply fin
          -- the break
          apply Int.le_antisymm (by omega)
          apply le_of_mul hypos
          have e : (q - 1) * yn1 = un21 - (r + yn1) := by rw [Int.sub_mul, hq]; omega
          have e2 : (q - 1) * y = (q - 1) * yn1 * 4294967296 + (q - 1) * yn0 := by rw [hy]; grind
          have e3 : (q - 1) * yn0 ≤ 4294967296 * 4294967295 := Int.mul_le_mul (by omega) h01 h00 (by omega)
          rw [e2, e]; generalize (q - 1) * yn0 = C at *; omega
        · rw [if_neg hB]
          refine ih k (r + yn1) (q - 1) (by omega) (by omega) ?_ (by omega) (by omega) (by omega) (by omega)
          rw [Int.sub_mul, hq]; omega
      | false =>
        have hnl : ¬ (un21 * 4294967296 + un0) / y < q := fun h => by simpa using hb.2 h
        simp only [bits_Div64.j4]
        rw [if_neg (by decide), if_pos hs0]
        exact fin q (by omega)
    have hk2 : k + 2 = (k + 1) + 1 := rfl
    rw [hk2]; simp only [bits_Div64.l1]
    by_cases hB : q ≥ 4294967296
    · rw [if_pos hB]; exact wq true ⟨fun _ => by omega, fun _ => rfl⟩
    · rw [if_neg hB]
      have hqn : 0 ≤ q := by omega
      have b1 : 0 ≤ q * yn0 := Int.mul_nonneg hqn h00
      have b2 : q * yn0 ≤ 4294967295 * 4294967295 := Int.mul_le_mul (by omega) h01 h00 (by omega)
      apply wq
      rw [decide_eq_true_iff]
      have e1 : IntKind.u64.wrap (q * yn0) = q * yn0 := by rw [uw]; omega
      have e2 : IntKind.u64.wrap (IntKind.u64.wrap (4294967296 * r) + un0) = 4294967296 * r + un0 := by simp only [uw]; omega
      rw [e1, e2]
      constructor
      · intro h; have := kn_gt hq h; rw [← hy] at this; exact lt_of_mul hypos this
      · intro h
        apply Int.not_le.1; intro hle
        have := kn_le hq hle; rw [← hy] at this; have := le_of_mul hypos this; omega

/-- Behind the first digit. -/
theorem j2_f (k : Nat) (y s yn1 yn0 un32 un1 un0 Q : Int) (hy : y = yn1 * 4294967296 + yn0) (hy1 : 2147483648 ≤ yn1) (hy2 : yn1 ≤ 4294967295) (h00 : 0 ≤ yn0) (h01 : yn0 ≤ 4294967295)
    (hs0 : 0 ≤ s) (hv0 : 0 ≤ un1) (hv1 : un1 ≤ 4294967295) (hu0 : 0 ≤ un0) (hu1 : un0 ≤ 4294967295) (hw0 : 0 ≤ un32) (hw1 : un32 < y) (hQ : Q = (un32 * 4294967296 + un1) / y) (hk : 5 ≤ k) :
    bits_Div64.j2 k y s yn1 yn0 un32 un1 un0 Q = some (((un32 * 4294967296 + un1) * 4294967296 + un0) / y, shr .u64 (((un32 * 4294967296 + un1) * 4294967296 + un0) % y) s) := by
  obtain ⟨k, rfl⟩ : ∃ m, k = m + 1 := ⟨k - 1, by omega⟩
  have hypos : 0 < y := by omega
  have hQ0 : 0 ≤ (un32 * 4294967296 + un1) / y := Int.ediv_nonneg (by omega) (by omega)
  have hQ1 : (un32 * 4294967296 + un1) / y < 4294967296 := lt_of_mul hypos (by omega)
  have hmod := Int.mul_ediv_add_emod (un32 * 4294967296 + un1) y
  have hm0 := Int.emod_nonneg (un32 * 4294967296 + un1) (show y ≠ 0 by omega)
  have hm1 := Int.emod_lt_of_pos (un32 * 4294967296 + un1) hypos
  obtain ⟨t1, t2⟩ := two_digits (u32 := un32) (u1 := un1) (u0 := un0) hypos
  rw [← hQ] at hQ0 hQ1 hmod t1
  simp only [bits_Div64.j2]
  rw [if_neg (by omega)]
  have e1 : IntKind.u64.wrap ((IntKind.u64.wrap ((IntKind.u64.wrap (un32 * 4294967296)) + un1)) - (IntKind.u64.wrap (Q * y))) = (un32 * 4294967296 + un1) % y := by
    rw [Int.mul_comm Q y]; generalize y * Q = P at *; generalize (un32 * 4294967296 + un1) % y = R at *
    simp only [uw]; omega
  rw [e1, t1, t2]
  generalize (un32 * 4294967296 + un1) % y = R at *
  rw [Int.tdiv_eq_ediv_of_nonneg hm0]
  have hq0 : 0 ≤ R / yn1 := Int.ediv_nonneg hm0 (by omega)
  have hqm := Int.mul_ediv_add_emod R yn1
  have hr0 := Int.emod_nonneg R (show yn1 ≠ 0 by omega)
  have hr1 := Int.emod_lt_of_pos R (show 0 < yn1 by omega)
  have hqB : R / yn1 ≤ 4294967297 := by
    have : R / yn1 < 4294967298 := lt_of_mul (by omega) (by omega)
    omega
  have hqy : R / yn1 ≤ R := Int.ediv_le_self _ hm0
  rw [uw_in (R / yn1) hq0 (by omega)]
  have e2 : IntKind.u64.wrap (R - IntKind.u64.wrap (R / yn1 * yn1)) = R % yn1 := by
    rw [Int.mul_comm (R / yn1) yn1]; generalize yn1 * (R / yn1) = P at *; generalize R % yn1 = r at *
    simp only [uw]; omega
  rw [e2]
  refine l1_f y s yn1 yn0 un0 Q R hy hy1 hy2 h00 h01 hs0 hu0 hu1 hm0 hm1 hQ0 (by omega) 2 k (R % yn1) (R / yn1) hr0 (by omega) ?_ hqB ?_ (by omega) (by omega)
  · rw [Int.mul_comm]; omega
  · -- the first guess is not too small
    have : (R * 4294967296 + un0) / y < R / yn1 + 1 := by
      apply lt_of_mul hypos
      have a : R + 1 ≤ (R / yn1 + 1) * yn1 := by rw [Int.add_mul, Int.mul_comm (R / yn1) yn1]; omega
      have b : 0 ≤ (R / yn1 + 1) * yn0 := Int.mul_nonneg (by omega) h00
      have e : (R / yn1 + 1) * y = (R / yn1 + 1) * yn1 * 4294967296 + (R / yn1 + 1) * yn0 := by rw [hy]; grind
      rw [e]; generalize (R / yn1 + 1) * yn1 = P at *; generalize (R / yn1 + 1) * yn0 = C at *; omega
    omega

/-- The first digit. -/
theorem l0_f (y s yn1 yn0 un32 un1 un0 : Int) (hy : y = yn1 * 4294967296 + yn0) (hy1 : 2147483648 ≤ yn1) (hy2 : yn1 ≤ 4294967295) (h00 : 0 ≤ yn0) (h01 : yn0 ≤ 4294967295)
    (hs0 : 0 ≤ s) (hv0 : 0 ≤ un1) (hv1 : un1 ≤ 4294967295) (hu0 : 0 ≤ un0) (hu1 : un0 ≤ 4294967295) (hw0 : 0 ≤ un32) (hw1 : un32 < y) (d : Nat) :
    ∀ (k : Nat) (r q : Int), 0 ≤ r → r ≤ 4294967295 → un32 = q * yn1 + r → q ≤ 4294967297 → (un32 * 4294967296 + un1) / y ≤ q → 4294967296 ≤ r + d * 2147483648 → 2 * d + 5 ≤ k →
    bits_Div64.l0 k y s yn1 yn0 un32 un1 un0 q r = some (((un32 * 4294967296 + un1) * 4294967296 + un0) / y, shr .u64 (((un32 * 4294967296 + un1) * 4294967296 + un0) % y) s) := by
  have hypos : 0 < y := by omega
  have hQ0 : 0 ≤ (un32 * 4294967296 + un1) / y := Int.ediv_nonneg (by omega) (by omega)
  have hQ1 : (un32 * 4294967296 + un1) / y < 4294967296 := lt_of_mul hypos (by omega)
  induction d with
  | zero => intro k r q _ _ _ _ _ h; omega
  | succ d ih =>
    intro k r q r0 r1 hq hqB hqQ hd hk
    obtain ⟨k, rfl⟩ : ∃ m, k = m + 2 := ⟨k - 2, by omega⟩
    have fin : ∀ (Q : Int), Q = (un32 * 4294967296 + un1) / y → bits_Div64.j2 k y s yn1 yn0 un32 un1 un0 Q = some (((un32 * 4294967296 + un1) * 4294967296 + un0) / y, shr .u64 (((un32 * 4294967296 + un1) * 4294967296 + un0) % y) s) := by
      intro Q hQ
      exact j2_f k y s yn1 yn0 un32 un1 un0 Q hy hy1 hy2 h00 h01 hs0 hv0 hv1 hu0 hu1 hw0 hw1 hQ (by omega)
    have wq : ∀ (b : Bool), (b = true ↔ (un32 * 4294967296 + un1) / y < q) → bits_Div64.j1 (k + 1) y s yn1 yn0 un32 un1 un0 q r b = some (((un32 * 4294967296 + un1) * 4294967296 + un0) / y, shr .u64 (((un32 * 4294967296 + un1) * 4294967296 + un0) % y) s) := by
      intro b hb
      cases b with
      | true =>
        have hlt : (un32 * 4294967296 + un1) / y < q := hb.1 rfl
        simp only [bits_Div64.j1, if_true]
        rw [uw_in (q - 1) (by omega) (by omega), uw_in (r + yn1) (by omega) (by omega)]
        by_cases hB : r + yn1 ≥ 4294967296
        · rw [if_pos hB]
          apply fin
          apply Int.le_antisymm _ (by omega)
          apply le_of_mul hypos
          have e : (q - 1) * yn1 = un32 - (r + yn1) := by rw [Int.sub_mul, hq]; omega
          have e2 : (q - 1) * y = (q - 1) * yn1 * 4294967296 + (q - 1) * yn0 := by rw [hy]; grind
          have e3 : (q - 1) * yn0 ≤ 4294967296 * 4294967295 := Int.mul_le_mul (by omega) h01 h00 (by omega)
          rw [e2, e]; generalize (q - 1) * yn0 = C at *; omega
        · rw [if_neg hB]
          refine ih k (r + yn1) (q - 1) (by omega) (by omega) ?_ (by omega) (by omega) (by omega) (by omega)
          rw [Int.sub_mul, hq]; omega
      | false =>
        have hnl : ¬ (un32 * 4294967296 + un1) / y < q := fun h => by simpa using hb.2 h
        simp only [bits_Div64.j1]
        rw [if_neg (by decide)]
        exact fin q (by omega)
    have hk2 : k + 2 = (k + 1) + 1 := rfl
    rw [hk2]; simp only [bits_Div64.l0]
    by_cases hB : q ≥ 4294967296
    · rw [if_pos hB]; exact wq true ⟨fun _ => by omega, fun _ => rfl⟩
    · rw [if_neg hB]
      have hqn : 0 ≤ q := by omega
      have b1 : 0 ≤ q * yn0 := Int.mul_nonneg hqn h00
      have b2 : q * yn0 ≤ 4294967295 * 4294967295 := Int.mul_le_mul (by omega) h01 h00 (by omega)
      apply wq
      rw [decide_eq_true_iff]
      have e1 : IntKind.u64.wrap (q * yn0) = q * yn0 := by rw [uw]; omega
      have e2 : IntKind.u64.wrap (IntKind.u64.wrap (4294967296 * r) + un1) = 4294967296 * r + un1 := by simp only [uw]; omega
      rw [e1, e2]
      constructor
      · intro h; have := kn_gt hq h; rw [← hy] at this; exact lt_of_mul hypos this
      · intro h
        apply Int.not_le.1; intro hle
        have := kn_le hq hle; rw [← hy] at this; have := le_of_mul hypos this; omega

set_option maxRecDepth 1000000 in
theorem bt_tab (i : Int) (h0 : 0 ≤ i) (h1 : i < 256) : bt (⟨#[0, 1, 2, 2, 3, 3, 3, 3, 4, 4, 4, 4, 4, 4, 4, 4, 5, 5, 5, 5, 5, 5, 5, 5, 5, 5, 5, 5, 5, 5, 5, 5, 6, 6, 6, 6, 6, 6, 6, 6, 6, 6, 6, 6, 6, 6, 6, 6, 6, 6, 6, 6, 6, 6, 6, 6, 6, 6, 6, 6, 6, 6, 6, 6, 7, 7, 7, 7, 7, 7, 7, 7, 7, 7, 7, 7, 7, 7, 7, 7, 7, 7, 7, 7, 7, 7, 7, 7, 7, 7, 7, 7, 7, 7, 7, 7, 7, 7, 7, 7, 7, 7, 7, 7, 7, 7, 7, 7, 7, 7, 7, 7, 7, 7, 7, 7, 7, 7, 7, 7, 7, 7, 7, 7, 7, 7, 7, 7, 8, 8, 8, 8, 8, 8, 8, 8, 8, 8, 8, 8, 8, 8, 8, 8, 8, 8, 8, 8, 8, 8, 8, 8, 8, 8, 8, 8, 8, 8, 8, 8, 8, 8, 8, 8, 8, 8, 8, 8, 8, 8, 8, 8, 8, 8, 8, 8, 8, 8, 8, 8, 8, 8, 8, 8, 8, 8, 8, 8, 8, 8, 8, 8, 8, 8, 8, 8, 8, 8, 8, 8, 8, 8, 8, 8, 8, 8, 8, 8, 8, 8, 8, 8, 8, 8, 8, 8, 8, 8, 8, 8, 8, 8, 8, 8, 8, 8, 8, 8, 8, 8, 8, 8, 8, 8, 8, 8, 8, 8, 8, 8, 8, 8, 8, 8, 8, 8, 8, 8, 8, 8, 8, 8, 8, 8, 8, 8]⟩ : ByteArray) i = ((bitLen i.toNat : Nat) : Int) := by
  have hs : i.toNat < ((⟨#[0, 1, 2, 2, 3, 3, 3, 3, 4, 4, 4, 4, 4, 4, 4, 4, 5, 5, 5, 5, 5, 5, 5, 5, 5, 5, 5, 5, 5, 5, 5, 5, 6, 6, 6, 6, 6, 6, 6, 6, 6, 6, 6, 6, 6, 6, 6, 6, 6, 6, 6, 6, 6, 6, 6, 6, 6, 6, 6, 6, 6, 6, 6, 6, 7, 7, 7, 7, 7, 7, 7, 7, 7, 7, 7, 7, 7, 7, 7, 7, 7, 7, 7, 7, 7, 7, 7, 7, 7, 7, 7, 7, 7, 7, 7, 7, 7, 7, 7, 7, 7, 7, 7, 7, 7, 7, 7, 7, 7, 7, 7, 7, 7, 7, 7, 7, 7, 7, 7, 7, 7, 7, 7, 7, 7, 7, 7, 7, 8, 8, 8, 8, 8, 8, 8, 8, 8, 8, 8, 8, 8, 8, 8, 8, 8, 8, 8, 8, 8, 8, 8, 8, 8, 8, 8, 8, 8, 8, 8, 8, 8, 8, 8, 8, 8, 8, 8, 8, 8, 8, 8, 8, 8, 8, 8, 8, 8, 8, 8, 8, 8, 8, 8, 8, 8, 8, 8, 8, 8, 8, 8, 8, 8, 8, 8, 8, 8, 8, 8, 8, 8, 8, 8, 8, 8, 8, 8, 8, 8, 8, 8, 8, 8, 8, 8, 8, 8, 8, 8, 8, 8, 8, 8, 8, 8, 8, 8, 8, 8, 8, 8, 8, 8, 8, 8, 8, 8, 8, 8, 8, 8, 8, 8, 8, 8, 8, 8, 8, 8, 8, 8, 8, 8, 8, 8, 8]⟩ : ByteArray)).size := by show i.toNat < 256; omega
  unfold bt
  rw [dif_pos hs]
  exact congrArg Nat.cast (len8tab_get i.toNat hs)
theorem bitLen_split (x : Int) (b : Nat) (c : Int) (hc : c = ((2 ^ b : Nat) : Int)) (h0 : 0 ≤ x) (h : x / c ≠ 0) : ((bitLen x.toNat : Nat) : Int) = (b : Int) + ((bitLen (x / c).toNat : Nat) : Int) := by
  obtain ⟨n, rfl⟩ := Int.eq_ofNat_of_zero_le h0
  subst hc
  have e : (n : Int) / ((2 ^ b : Nat) : Int) = ((n / 2 ^ b : Nat) : Int) := (Int.natCast_ediv _ _).symm
  rw [e] at h ⊢
  have h' : n / 2 ^ b ≠ 0 := by intro hh; apply h; rw [hh]; rfl
  simp only [Int.toNat_natCast]
  rw [bitLen_shift n b h']; omega
theorem bitLen_le (x : Nat) (b : Nat) (h : x < 2 ^ b) : bitLen x ≤ b := by
  unfold bitLen; split
  · omega
  · rename_i h0; have := (Nat.log2_lt h0).2 h; omega
set_option maxRecDepth 1000000 in
theorem len_j0 (k : Nat) (x n : Int) (h1 : 0 ≤ x) (h2 : x < 4294967296) (n0 : 0 ≤ n) (n1 : n ≤ 32) : bits_Len64.j0 (k + 1) x n = some (n + ((bitLen x.toNat : Nat) : Int)) := by
  have w : ∀ (m y : Int), 0 ≤ m → m ≤ 64 → 0 ≤ y → y < 256 → wrap64 (m + wrap64 ((bitLen y.toNat : Nat) : Int)) = m + ((bitLen y.toNat : Nat) : Int) := by
    intro m y a b c d
    have := bitLen_le8 y.toNat (by omega)
    rw [iw_in ((bitLen y.toNat : Nat) : Int) (by omega) (by omega), iw_in _ (by omega) (by omega)]
  rw [bits_Len64.j0]
  by_cases a : x ≥ 65536
  · rw [if_pos a]
    have s1 := bitLen_split x 16 65536 rfl h1 (by omega)
    by_cases b : x / 65536 ≥ 256
    · have s2 := bitLen_split (x / 65536) 8 256 rfl (by omega) (by omega)
      have e : x / 65536 / 256 % 256 = x / 65536 / 256 := by omega
      rw [if_pos b, e, if_pos (by omega), if_pos (by omega), bt_tab _ (by omega) (by omega), iw_in (n + 16) (by omega) (by omega), iw_in (n + 16 + 8) (by omega) (by omega), w _ _ (by omega) (by omega) (by omega) (by omega), s1, s2]
      congr 1; omega
    · have e : x / 65536 % 256 = x / 65536 := by omega
      rw [if_neg b, e, if_pos (by omega), if_pos (by omega), bt_tab _ (by omega) (by omega), iw_in (n + 16) (by omega) (by omega), w _ _ (by omega) (by omega) (by omega) (by omega), s1]
      congr 1; omega
  · rw [if_neg a]
    by_cases b : x ≥ 256
    · have s2 := bitLen_split x 8 256 rfl (by omega) (by omega)
      have e : x / 256 % 256 = x / 256 := by omega
      rw [if_pos b, e, if_pos (by omega), if_pos (by omega), bt_tab _ (by omega) (by omega), iw_in (n + 8) (by omega) (by omega), w _ _ (by omega) (by omega) (by omega) (by omega), s2]
      congr 1; omega
    · have e : x % 256 = x := by omega
      rw [if_neg b, e, if_pos (by omega), if_pos (by omega), bt_tab _ (by omega) (by omega), w _ _ (by omega) (by omega) (by omega) (by omega)]
theorem len64_f (k : Nat) (x : Int) (h1 : 0 ≤ x) (h2 : x < 18446744073709551616) (hk : 1 ≤ k) : bits_Len64.f k x = some ((bitLen x.toNat : Nat) : Int) := by
  obtain ⟨k, rfl⟩ : ∃ m, k = m + 1 := ⟨k - 1, by omega⟩
  unfold bits_Len64.f
  by_cases a : x ≥ 4294967296
  · rw [if_pos a, len_j0 k _ _ (by omega) (by omega) (by omega) (by omega), bitLen_split x 32 4294967296 rfl h1 (by omega)]; rfl
  · rw [if_neg a, len_j0 k _ _ (by omega) (by omega) (by omega) (by omega)]; congr 1; omega

theorem emod_mul_right {a b c : Int} (h : 0 < c) : a * c % (b * c) = a % b * c := by
  rw [Int.mul_comm a c, Int.mul_comm b c, Int.mul_emod_mul_of_pos _ _ h, Int.mul_comm]
/-- bits.Div64. -/
theorem div64_f (k : Nat) (hi lo y : Int) (hh0 : 0 ≤ hi) (hl0 : 0 ≤ lo) (hl1 : lo ≤ 18446744073709551615) (hlt : hi < y) (hy1 : y ≤ 18446744073709551615) (hk : 9 ≤ k) :
    bits_Div64.f k hi lo y = some ((hi * 18446744073709551616 + lo) / y, (hi * 18446744073709551616 + lo) % y) := by
  unfold bits_Div64.f
  rw [if_neg (by omega), if_neg (by omega)]
  by_cases h0 : hi = 0
  · subst h0
    rw [if_pos rfl, Int.tdiv_eq_ediv_of_nonneg hl0, Int.tmod_eq_emod_of_nonneg hl0]
    have := Int.ediv_le_self y hl0
    have := Int.ediv_nonneg hl0 (show 0 ≤ y by omega)
    rw [uw_in _ (by omega) (by omega)]; simp
  · rw [if_neg h0]
    have ypos : 0 < y := by omega
    -- the shift
    obtain ⟨L, hL⟩ : ∃ L, bitLen y.toNat = L := ⟨_, rfl⟩
    have sp := bitLen_spec y.toNat
    rw [hL] at sp
    have hL64 : L ≤ 64 := by rw [← hL]; exact bitLen_le y.toNat 64 (by omega)
    have hL0 : L ≠ 0 := by intro h; rw [h] at sp; have := sp.1; simp at this; omega
    obtain ⟨sn, hs⟩ : ∃ sn, sn + L = 64 := ⟨64 - L, by omega⟩
    have ps := sp.2 (by omega)
    have pl := sp.1
    unfold bits_LeadingZeros64.f
    rw [len64_f k y (by omega) (by omega) (by omega), hL]
    simp only [Option.bind_some]
    have es : IntKind.u64.wrap (wrap64 (64 - (L : Int))) = (sn : Int) := by rw [iw_in _ (by omega) (by omega), uw]; omega
    have es2 : IntKind.u64.wrap (64 - (sn : Int)) = (L : Int) := by rw [uw]; omega
    rw [es, es2, if_pos (by omega), if_pos (by omega)]
    -- powers
    obtain ⟨P, hP⟩ : ∃ P : Int, P = ((2 ^ sn : Nat) : Int) := ⟨_, rfl⟩
    obtain ⟨W, hW⟩ : ∃ W : Int, W = ((2 ^ L : Nat) : Int) := ⟨_, rfl⟩
    have hPW : P * W = 18446744073709551616 := by
      rw [hP, hW, ← Int.natCast_mul, ← Nat.pow_add, hs]; rfl
    have hPpos : 0 < P := by rw [hP]; have := Nat.two_pow_pos sn; omega
    have hWpos : 0 < W := by rw [hW]; have := Nat.two_pow_pos L; omega
    have hyW : y < W := by rw [hW]; omega
    have hPw : (2 : Int) ^ (sn : Int).toNat = P := by rw [hP, Int.toNat_natCast]; simp
    have hWw : (2 : Int) ^ (L : Int).toNat = W := by rw [hW, Int.toNat_natCast]; simp
    have hPw' : (2 : Int) ^ sn = P := by rw [hP]; simp
    have hyP1 : y * P < 18446744073709551616 := by
      rw [← hPW, Int.mul_comm P W]; exact Int.mul_lt_mul_of_pos_right hyW hPpos
    have hyP0 : 9223372036854775808 ≤ y * P := by
      have hh : ((2 ^ (L - 1) : Nat) : Int) ≤ y := by omega
      have := Int.mul_le_mul_of_nonneg_right hh (Int.le_of_lt hPpos)
      rw [hP] at this ⊢
      have e : ((2 ^ (L - 1) : Nat) : Int) * ((2 ^ sn : Nat) : Int) = 9223372036854775808 := by
        rw [← Int.natCast_mul, ← Nat.pow_add, show L - 1 + sn = 63 by omega]; rfl
      omega
    have hhP : hi * P ≤ y * P - P := by
      have := Int.mul_le_mul_of_nonneg_right (show hi ≤ y - 1 by omega) (Int.le_of_lt hPpos)
      rw [Int.sub_mul, Int.one_mul] at this; exact this
    have hhP0 : 0 ≤ hi * P := Int.mul_nonneg hh0 (Int.le_of_lt hPpos)
    have hlW : lo / W < P := by apply lt_of_mul hWpos; rw [hPW]; omega
    have hlW0 : 0 ≤ lo / W := Int.ediv_nonneg hl0 (Int.le_of_lt hWpos)
    have d1 : shl .u64 y (sn : Int) = y * P := by rw [shl64 _ _ (by omega), hPw]; exact Int.emod_eq_of_lt (by omega) hyP1
    have d2 : shl .u64 hi (sn : Int) = hi * P := by rw [shl64 _ _ (by omega), hPw]; exact Int.emod_eq_of_lt hhP0 (by omega)
    have d3 : shr .u64 lo (L : Int) = lo / W := by rw [shr64 _ _ (by omega), hWw]
    have d4 : shl .u64 lo (sn : Int) = lo * P % 18446744073709551616 := by rw [shl64 _ _ (by omega), hPw]
    have d5 : bits .or .u64 (hi * P) (lo / W) = hi * P + lo / W := by
      apply or_add _ _ sn hhP0 (by omega) hlW0
      · rw [hPw']; exact Int.mul_emod_left _ _
      · rw [hPw']; exact hlW
      · omega
    have d6 : lo * P / 18446744073709551616 = lo / W := by
      rw [← hPW, Int.mul_comm P W, Int.mul_ediv_mul_of_pos_left _ _ hPpos]
    have d7 := Int.mul_ediv_add_emod (lo * P) 18446744073709551616
    have d8 : (hi * 18446744073709551616 + lo) * P = (hi * P + lo / W) * 18446744073709551616 + lo * P % 18446744073709551616 := by
      rw [Int.add_mul, ← d6]
      have : hi * 18446744073709551616 * P = hi * P * 18446744073709551616 := by rw [Int.mul_assoc, Int.mul_comm 18446744073709551616 P, Int.mul_assoc]
      rw [this]; generalize hi * P = X at *; generalize lo * P = Z at *; omega
    rw [d1, d2, d3, d4, d5]
    have v0 : 0 ≤ lo * P % 18446744073709551616 := Int.emod_nonneg _ (by omega)
    have v1 : lo * P % 18446744073709551616 < 18446744073709551616 := Int.emod_lt_of_pos _ (by omega)
    have goal : ∀ r, r = bits_Div64.l0 k (y * P) (sn : Int) (y * P / 4294967296) (y * P % 4294967296) (hi * P + lo / W) (lo * P % 18446744073709551616 / 4294967296) (lo * P % 18446744073709551616 % 4294967296) ((hi * P + lo / W) / (y * P / 4294967296)) ((hi * P + lo / W) % (y * P / 4294967296)) →
        r = some ((hi * 18446744073709551616 + lo) / y, (hi * 18446744073709551616 + lo) % y) := by
      intro r hr
      rw [hr]
      have lem := l0_f (y * P) (sn : Int) (y * P / 4294967296) (y * P % 4294967296) (hi * P + lo / W) (lo * P % 18446744073709551616 / 4294967296) (lo * P % 18446744073709551616 % 4294967296)
        (by omega) (by omega) (by omega) (by omega) (by omega) (by omega) (by omega) (by omega) (by omega) (by omega) (by omega) (by omega) 2 k
        ((hi * P + lo / W) % (y * P / 4294967296)) ((hi * P + lo / W) / (y * P / 4294967296))
      have a1 := Int.emod_nonneg (hi * P + lo / W) (show y * P / 4294967296 ≠ 0 by omega)
      have a2 := Int.emod_lt_of_pos (hi * P + lo / W) (show 0 < y * P / 4294967296 by omega)
      have a3 := Int.mul_ediv_add_emod (hi * P + lo / W) (y * P / 4294967296)
      have ediv : (hi * P + lo / W) / (y * P / 4294967296) ≤ 4294967297 := by
        have : (hi * P + lo / W) / (y * P / 4294967296) < 4294967298 := lt_of_mul (by omega) (by omega)
        omega
      rw [lem a1 (by omega) (by rw [Int.mul_comm ((hi * P + lo / W) / (y * P / 4294967296))]; omega) ediv ?_ (by omega) (by omega)]
      · have e9 : ((hi * P + lo / W) * 4294967296 + lo * P % 18446744073709551616 / 4294967296) * 4294967296 + lo * P % 18446744073709551616 % 4294967296 = (hi * 18446744073709551616 + lo) * P := by rw [d8]; omega
        rw [e9, Int.mul_ediv_mul_of_pos_left _ _ hPpos, emod_mul_right hPpos, shr64 _ _ (by omega), hPw, Int.mul_ediv_cancel _ (by omega)]
      · have : ((hi * P + lo / W) * 4294967296 + lo * P % 18446744073709551616 / 4294967296) / (y * P) < (hi * P + lo / W) / (y * P / 4294967296) + 1 := by
          apply lt_of_mul (by omega)
          generalize hq : (hi * P + lo / W) / (y * P / 4294967296) = q at *
          have q0 : 0 ≤ q := by rw [← hq]; exact Int.ediv_nonneg (by omega) (by omega)
          have a : (hi * P + lo / W) + 1 ≤ (q + 1) * (y * P / 4294967296) := by rw [Int.add_mul, Int.mul_comm q]; omega
          have b : 0 ≤ (q + 1) * (y * P % 4294967296) := Int.mul_nonneg (by omega) (by omega)
          have e : (q + 1) * (y * P) = (q + 1) * (y * P / 4294967296) * 4294967296 + (q + 1) * (y * P % 4294967296) := by
            have : y * P = (y * P / 4294967296) * 4294967296 + y * P % 4294967296 := by omega
            generalize y * P / 4294967296 = A at *; generalize y * P % 4294967296 = C at *
            rw [this]; grind
          rw [e]; generalize (q + 1) * (y * P / 4294967296) = A at *; generalize (q + 1) * (y * P % 4294967296) = C at *; omega
        omega
    rw [if_neg (by omega)]
    apply goal
    have b1 : 0 ≤ (hi * P + lo / W) / (y * P / 4294967296) := Int.ediv_nonneg (by omega) (by omega)
    have b2 : (hi * P + lo / W) / (y * P / 4294967296) ≤ hi * P + lo / W := Int.ediv_le_self _ (by omega)
    have b3 := Int.mul_ediv_add_emod (hi * P + lo / W) (y * P / 4294967296)
    have b4 := Int.emod_nonneg (hi * P + lo / W) (show y * P / 4294967296 ≠ 0 by omega)
    have b5 := Int.emod_lt_of_pos (hi * P + lo / W) (show 0 < y * P / 4294967296 by omega)
    rw [Int.tdiv_eq_ediv_of_nonneg (by omega), uw_in _ b1 (by omega), and_low32 _ (by omega) (by omega), and_low32 _ (by omega) (by omega)]
    have e2 : IntKind.u64.wrap ((hi * P + lo / W) - IntKind.u64.wrap ((hi * P + lo / W) / (y * P / 4294967296) * (y * P / 4294967296))) = (hi * P + lo / W) % (y * P / 4294967296) := by
      rw [Int.mul_comm ((hi * P + lo / W) / (y * P / 4294967296))]
      generalize (hi * P + lo / W) % (y * P / 4294967296) = r at *
      generalize y * P / 4294967296 * ((hi * P + lo / W) / (y * P / 4294967296)) = M at *
      simp only [uw]; omega
    rw [e2]

end Go.Proofs.Ytmodbnimbmpldaa.Fx
