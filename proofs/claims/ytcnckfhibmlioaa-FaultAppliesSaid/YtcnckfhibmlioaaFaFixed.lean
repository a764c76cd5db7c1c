/- Facts about the printed functions of the layer 'fixed' (and bits), turned to this seat by a program of this session (wip/tools/port.py). -/
import Derived.Test.YtcnckfhibmlioaaMath
import Derived.Test.YtcnckfhibmlioaaPFax5
namespace Go.Proofs.Ytcnckfhibmlioaa.FxFa
set_option linter.unusedVariables false
set_option linter.unusedSimpArgs false
open Go Go.RowKit Go.Proofs.Ytcnckfhibmlioaa.PFa Go.Proofs.Ytcnckfhibmlioaa.Math Go.Proofs.YtcnckfhibmlioaaW.PrintWords Go.Proofs.YtcnckfhibmlioaaW.PrintLast Go.Proofs.YtcnckfhibmlioaaW.PrintMore



theorem mul64_f (a b : Int) (ha0 : 0 ≤ a) (ha : a ≤ 18446744073709551615) (hb0 : 0 ≤ b) (hb : b ≤ 18446744073709551615) :
    bits_Mul64.f a b = some (a * b / 18446744073709551616, a * b % 18446744073709551616) := by
  unfold bits_Mul64.f
  rw [and_low32 a ha0 (by omega), and_low32 b hb0 (by omega)]
  have h := mul64_arith a b ha0 (by omega) hb0 (by omega)
  rw [and_low32 (IntKind.u64.wrap _) (by rw [uw]; omega) (by rw [uw]; omega)]
  simp only [uw]
  rw [h]

/-- The second digit. -/
theorem l1_f (y s yn1 yn0 un0 q1 un21 : Int) (hy : y = yn1 * 4294967296 + yn0) (hy1 : 2147483648 ≤ yn1) (hy2 : yn1 ≤ 4294967295) (h00 : 0 ≤ yn0) (h01 : yn0 ≤ 4294967295)
    (hs0 : 0 ≤ s) (hu0 : 0 ≤ un0) (hu1 : un0 ≤ 4294967295) (hr0 : 0 ≤ un21) (hr1 : un21 < y) (hq0 : 0 ≤ q1) (hq1 : q1 ≤ 4294967295) (d : Nat) :
    ∀ (k : Nat) (r q : Int), 0 ≤ r → r ≤ 4294967295 → un21 = q * yn1 + r → q ≤ 4294967297 → (un21 * 4294967296 + un0) / y ≤ q → 4294967296 ≤ r + d * 2147483648 → 2 * d ≤ k →
    bits_Div64.l1 k y s yn1 yn0 un0 q1 r un21 q = some (q1 * 4294967296 + (un21 * 4294967296 + un0) / y, shr .u64 ((un21 * 4294967296 + un0) % y) s) := by
  have hypos : 0 < y := by omega
  have hQ0 : 0 ≤ (un21 * 4294967296 + un0) / y := Int.ediv_nonneg (by omega) (by omega)
  have hQ1 : (un21 * 4294967296 + un0) / y < 4294967296 := lt_of_mul hypos (by omega)
  have hmod := Int.mul_ediv_add_emod (un21 * 4294967296 + un0) y
  have hm0 := Int.emod_nonneg (un21 * 4294967296 + un0) (show y ≠ 0 by omega)
  have hm1 := Int.emod_lt_of_pos (un21 * 4294967296 + un0) hypos
  induction d with
  | zero => intro k r q _ _ _ _ _ h; omega
  | succ d ih =>
    intro k r q r0 r1 hq hqB hqQ hd hk
    obtain ⟨k, rfl⟩ : ∃ m, k = m + 2 := ⟨k - 2, by omega⟩
    have fin : ∀ (Q : Int), (un21 * 4294967296 + un0) / y = Q → (some (IntKind.u64.wrap ((IntKind.u64.wrap (q1 * 4294967296)) + Q), shr .u64 (IntKind.u64.wrap ((IntKind.u64.wrap ((IntKind.u64.wrap (un21 * 4294967296)) + un0)) - (IntKind.u64.wrap (Q * y)))) s) : Option (Int × Int)) = some (q1 * 4294967296 + (un21 * 4294967296 + un0) / y, shr .u64 ((un21 * 4294967296 + un0) % y) s) := by
      intro Q hQ
      rw [hQ] at hmod hQ0 hQ1 ⊢
      have e1 : IntKind.u64.wrap ((IntKind.u64.wrap (q1 * 4294967296)) + Q) = q1 * 4294967296 + Q := by simp only [uw]; omega
      have e2 : IntKind.u64.wrap ((IntKind.u64.wrap ((IntKind.u64.wrap (un21 * 4294967296)) + un0)) - (IntKind.u64.wrap (Q * y))) = (un21 * 4294967296 + un0) % y := by
        rw [Int.mul_comm Q y]; generalize y * Q = P at *; generalize (un21 * 4294967296 + un0) % y = R at *
        simp only [uw]; omega
      rw [e1, e2]
    have wq : ∀ (b : Bool), (b = true ↔ (un21 * 4294967296 + un0) / y < q) → bits_Div64.j4 (k + 1) y s yn1 yn0 un0 q1 r un21 q b = some (q1 * 4294967296 + (un21 * 4294967296 + un0) / y, shr .u64 ((un21 * 4294967296 + un0) % y) s) := by
      intro b hb
      cases b with
      | true =>
        have hlt : (un21 * 4294967296 + un0) / y < q := hb.1 rfl
        simp only [bits_Div64.j4, if_true]
        rw [uw_in (q - 1) (by omega) (by omega), uw_in (r + yn1) (by omega) (by omega)]
        by_cases hB : r + yn1 ≥ 4294967296
        · rw [if_pos hB, if_pos hs0]
          apply fin
          -- the break
          apply Int.le_antisymm (by omega)
          apply le_of_mul hypos
          have e : (q - 1) * yn1 = un21 - (r + yn1) := by rw [Int.sub_mul, hq]; omega
          have e2 : (q - 1) * y = (q - 1) * yn1 * 4294967296 + (q - 1) * yn0 := by rw [hy]; grind
          have e3 : (q - 1) * yn0 ≤ 4294967296 * 4294967295 := Int.mul_le_mul (by omega) h01 h00 (by omega)
          rw [e2, e]; generalize (q - 1) * yn0 = C at *; omega
        · rw [if_neg hB]
          refine ih k (r + yn1) (q - 1) (by omega) (by omega) ?_ (by omega) (by omega) (by omega) (by omega)
          rw [Int.sub_mul, hq]; omega
      | false =>
        have hnl : ¬ (un21 * 4294967296 + un0) / y < q := fun h => by simpa using hb.2 h
        simp only [bits_Div64.j4]
        rw [if_neg (by decide), if_pos hs0]
        exact fin q (by omega)
    have hk2 : k + 2 = (k + 1) + 1 := rfl
    rw [hk2]; simp only [bits_Div64.l1]
    by_cases hB : q ≥ 4294967296
    · rw [if_pos hB]; exact wq true ⟨fun _ => by omega, fun _ => rfl⟩
    · rw [if_neg hB]
      have hqn : 0 ≤ q := by omega
      have b1 : 0 ≤ q * yn0 := Int.mul_nonneg hqn h00
      have b2 : q * yn0 ≤ 4294967295 * 4294967295 := Int.mul_le_mul (by omega) h01 h00 (by omega)
      apply wq
      rw [decide_eq_true_iff]
      have e1 : IntKind.u64.wrap (q * yn0) = q * yn0 := by rw [uw]; omega
      have e2 : IntKind.u64.wrap (IntKind.u64.wrap (4294967296 * r) + un0) = 4294967296 * r + un0 := by simp only [uw]; omega
      rw [e1, e2]
      constructor
      · intro h; have := kn_gt hq h; rw [← hy] at this; exact lt_of_mul hypos this
      · intro h
        apply Int.not_le.1; intro hle
        have := kn_le hq hle; rw [← hy] at this; have := le_of_mul hypos this; omega

/-- Behind the first digit. -/
theorem j2_f (k : Nat) (y s yn1 yn0 un32 un1 un0 Q : Int) (hy : y = yn1 * 4294967296 + yn0) (hy1 : 2147483648 ≤ yn1) (hy2 : yn1 ≤ 4294967295) (h00 : 0 ≤ yn0) (h01 : yn0 ≤ 4294967295)
    (hs0 : 0 ≤ s) (hv0 : 0 ≤ un1) (hv1 : un1 ≤ 4294967295) (hu0 : 0 ≤ un0) (hu1 : un0 ≤ 4294967295) (hw0 : 0 ≤ un32) (hw1 : un32 < y) (hQ : Q = (un32 * 4294967296 + un1) / y) (hk : 5 ≤ k) :
    bits_Div64.j2 k y s yn1 yn0 un32 un1 un0 Q = some (((un32 * 4294967296 + un1) * 4294967296 + un0) / y, shr .u64 (((un32 * 4294967296 + un1) * 4294967296 + un0) % y) s) := by
  obtain ⟨k, rfl⟩ : ∃ m, k = m + 1 := ⟨k - 1, by omega⟩
  have hypos : 0 < y := by omega
  have hQ0 : 0 ≤ (un32 * 4294967296 + un1) / y := Int.ediv_nonneg (by omega) (by omega)
  have hQ1 : (un32 * 4294967296 + un1) / y < 4294967296 := lt_of_mul hypos (by omega)
  have hmod := Int.mul_ediv_add_emod (un32 * 4294967296 + un1) y
  have hm0 := Int.emod_nonneg (un32 * 4294967296 + un1) (show y ≠ 0 by omega)
  have hm1 := Int.emod_lt_of_pos (un32 * 4294967296 + un1) hypos
  obtain ⟨t1, t2⟩ := two_digits (u32 := un32) (u1 := un1) (u0 := un0) hypos
  rw [← hQ] at hQ0 hQ1 hmod t1
  simp only [bits_Div64.j2]
  rw [if_neg (by omega)]
  have e1 : IntKind.u64.wrap ((IntKind.u64.wrap ((IntKind.u64.wrap (un32 * 4294967296)) + un1)) - (IntKind.u64.wrap (Q * y))) = (un32 * 4294967296 + un1) % y := by
    rw [Int.mul_comm Q y]; generalize y * Q = P at *; generalize (un32 * 4294967296 + un1) % y = R at *
    simp only [uw]; omega
  rw [e1, t1, t2]
  generalize (un32 * 4294967296 + un1) % y = R at *
  rw [Int.tdiv_eq_ediv_of_nonneg hm0]
  have hq0 : 0 ≤ R / yn1 := Int.ediv_nonneg hm0 (by omega)
  have hqm := Int.mul_ediv_add_emod R yn1
  have hr0 := Int.emod_nonneg R (show yn1 ≠ 0 by omega)
  have hr1 := Int.emod_lt_of_pos R (show 0 < yn1 by omega)
  have hqB : R / yn1 ≤ 4294967297 := by
    have : R / yn1 < 4294967298 := lt_of_mul (by omega) (by omega)
    omega
  have hqy : R / yn1 ≤ R := Int.ediv_le_self _ hm0
  rw [uw_in (R / yn1) hq0 (by omega)]
  have e2 : IntKind.u64.wrap (R - IntKind.u64.wrap (R / yn1 * yn1)) = R % yn1 := by
    rw [Int.mul_comm (R / yn1) yn1]; generalize yn1 * (R / yn1) = P at *; generalize R % yn1 = r at *
    simp only [uw]; omega
  rw [e2]
  refine l1_f y s yn1 yn0 un0 Q R hy hy1 hy2 h00 h01 hs0 hu0 hu1 hm0 hm1 hQ0 (by omega) 2 k (R % yn1) (R / yn1) hr0 (by omega) ?_ hqB ?_ (by omega) (by omega)
  · rw [Int.mul_comm]; omega
  · -- the first guess is not too small
    have : (R * 4294967296 + un0) / y < R / yn1 + 1 := by
      apply lt_of_mul hypos
      have a : R + 1 ≤ (R / yn1 + 1) * yn1 := by rw [Int.add_mul, Int.mul_comm (R / yn1) yn1]; omega
      have b : 0 ≤ (R / yn1 + 1) * yn0 := Int.mul_nonneg (by omega) h00
      have e : (R / yn1 + 1) * y = (R / yn1 + 1) * yn1 * 4294967296 + (R / yn1 + 1) * yn0 := by rw [hy]; grind
      rw [e]; generalize (R / yn1 + 1) * yn1 = P at *; generalize (R / yn1 + 1) * yn0 = C at *; omega
    omega

/-- The first digit. -/
theorem l0_f (y s yn1 yn0 un32 un1 un0 : Int) (hy : y = yn1 * 4294967296 + yn0) (hy1 : 2147483648 ≤ yn1) (hy2 : yn1 ≤ 4294967295) (h00 : 0 ≤ yn0) (h01 : yn0 ≤ 4294967295)
    (hs0 : 0 ≤ s) (hv0 : 0 ≤ un1) (hv1 : un1 ≤ 4294967295) (hu0 : 0 ≤ un0) (hu1 : un0 ≤ 4294967295) (hw0 : 0 ≤ un32) (hw1 : un32 < y) (d : Nat) :
    ∀ (k : Nat) (r q : Int), 0 ≤ r → r ≤ 4294967295 → un32 = q * yn1 + r → q ≤ 4294967297 → (un32 * 4294967296 + un1) / y ≤ q → 4294967296 ≤ r + d * 2147483648 → 2 * d + 5 ≤ k →
    bits_Div64.l0 k y s yn1 yn0 un32 un1 un0 q r = some (((un32 * 4294967296 + un1) * 4294967296 + un0) / y, shr .u64 (((un32 * 4294967296 + un1) * 4294967296 + un0) % y) s) := by
  have hypos : 0 < y := by omega
  have hQ0 : 0 ≤ (un32 * 4294967296 + un1) / y := Int.ediv_nonneg (by omega) (by omega)
  have hQ1 : (un32 * 4294967296 + un1) / y < 4294967296 := lt_of_mul hypos (by omega)
  induction d with
  | zero => intro k r q _ _ _ _ _ h; omega
  | succ d ih =>
    intro k r q r0 r1 hq hqB hqQ hd hk
    obtain ⟨k, rfl⟩ : ∃ m, k = m + 2 := ⟨k - 2, by omega⟩
    have fin : ∀ (Q : Int), Q = (un32 * 4294967296 + un1) / y → bits_Div64.j2 k y s yn1 yn0 un32 un1 un0 Q = some (((un32 * 4294967296 + un1) * 4294967296 + un0) / y, shr .u64 (((un32 * 4294967296 + un1) * 4294967296 + un0) % y) s) := by
      intro Q hQ
      exact j2_f k y s yn1 yn0 un32 un1 un0 Q hy hy1 hy2 h00 h01 hs0 hv0 hv1 hu0 hu1 hw0 hw1 hQ (by omega)
    have wq : ∀ (b : Bool), (b = true ↔ (un32 * 4294967296 + un1) / y < q) → bits_Div64.j1 (k + 1) y s yn1 yn0 un32 un1 un0 q r b = some (((un32 * 4294967296 + un1) * 4294967296 + un0) / y, shr .u64 (((un32 * 4294967296 + un1) * 4294967296 + un0) % y) s) := by
      intro b hb
      cases b with
      | true =>
        have hlt : (un32 * 4294967296 + un1) / y < q := hb.1 rfl
        simp only [bits_Div64.j1, if_true]
        rw [uw_in (q - 1) (by omega) (by omega), uw_in (r + yn1) (by omega) (by omega)]
        by_cases hB : r + yn1 ≥ 4294967296
        · rw [if_pos hB]
          apply fin
          apply Int.le_antisymm _ (by omega)
          apply le_of_mul hypos
          have e : (q - 1) * yn1 = un32 - (r + yn1) := by rw [Int.sub_mul, hq]; omega
          have e2 : (q - 1) * y = (q - 1) * yn1 * 4294967296 + (q - 1) * yn0 := by rw [hy]; grind
          have e3 : (q - 1) * yn0 ≤ 4294967296 * 4294967295 := Int.mul_le_mul (by omega) h01 h00 (by omega)
          rw [e2, e]; generalize (q - 1) * yn0 = C at *; omega
        · rw [if_neg hB]
          refine ih k (r + yn1) (q - 1) (by omega) (by omega) ?_ (by omega) (by omega) (by omega) (by omega)
          rw [Int.sub_mul, hq]; omega
      | false =>
        have hnl : ¬ (un32 * 4294967296 + un1) / y < q := fun h => by simpa using hb.2 h
        simp only [bits_Div64.j1]
        rw [if_neg (by decide)]
        exact fin q (by omega)
    have hk2 : k + 2 = (k + 1) + 1 := rfl
    rw [hk2]; simp only [bits_Div64.l0]
    by_cases hB : q ≥ 4294967296
    · rw [if_pos hB]; exact wq true ⟨fun _ => by omega, fun _ => rfl⟩
    · rw [if_neg hB]
      have hqn : 0 ≤ q := by omega
      have b1 : 0 ≤ q * yn0 := Int.mul_nonneg hqn h00
      have b2 : q * yn0 ≤ 4294967295 * 4294967295 := Int.mul_le_mul (by omega) h01 h00 (by omega)
      apply wq
      rw [decide_eq_true_iff]
      have e1 : IntKind.u64.wrap (q * yn0) = q * yn0 := by rw [uw]; omega
      have e2 : IntKind.u64.wrap (IntKind.u64.wrap (4294967296 * r) + un1) = 4294967296 * r + un1 := by simp only [uw]; omega
      rw [e1, e2]
      constructor
      · intro h; have := kn_gt hq h; rw [← hy] at this; exact lt_of_mul hypos this
      · intro h
        apply Int.not_le.1; intro hle
        have := kn_le hq hle; rw [← hy] at this; have := le_of_mul hypos this; omega

set_option maxRecDepth 1000000 in
theorem bt_tab (i : Int) (h0 : 0 ≤ i) (h1 : i < 256) : bt (⟨#[0, 1, 2, 2, 3, 3, 3, 3, 4, 4, 4, 4, 4, 4, 4, 4, 5, 5, 5, 5, 5, 5, 5, 5, 5, 5, 5, 5, 5, 5, 5, 5, 6, 6, 6, 6, 6, 6, 6, 6, 6, 6, 6, 6, 6, 6, 6, 6, 6, 6, 6, 6, 6, 6, 6, 6, 6, 6, 6, 6, 6, 6, 6, 6, 7, 7, 7, 7, 7, 7, 7, 7, 7, 7, 7, 7, 7, 7, 7, 7, 7, 7, 7, 7, 7, 7, 7, 7, 7, 7, 7, 7, 7, 7, 7, 7, 7, 7, 7, 7, 7, 7, 7, 7, 7, 7, 7, 7, 7, 7, 7, 7, 7, 7, 7, 7, 7, 7, 7, 7, 7, 7, 7, 7, 7, 7, 7, 7, 8, 8, 8, 8, 8, 8, 8, 8, 8, 8, 8, 8, 8, 8, 8, 8, 8, 8, 8, 8, 8, 8, 8, 8, 8, 8, 8, 8, 8, 8, 8, 8, 8, 8, 8, 8, 8, 8, 8, 8, 8, 8, 8, 8, 8, 8, 8, 8, 8, 8, 8, 8, 8, 8, 8, 8, 8, 8, 8, 8, 8, 8, 8, 8, 8, 8, 8, 8, 8, 8, 8, 8, 8, 8, 8, 8, 8, 8, 8, 8, 8, 8, 8, 8, 8, 8, 8, 8, 8, 8, 8, 8, 8, 8, 8, 8, 8, 8, 8, 8, 8, 8, 8, 8, 8, 8, 8, 8, 8, 8, 8, 8, 8, 8, 8, 8, 8, 8, 8, 8, 8, 8, 8, 8, 8, 8, 8, 8]⟩ : ByteArray) i = ((bitLen i.toNat : Nat) : Int) := by
  have hs : i.toNat < ((⟨#[0, 1, 2, 2, 3, 3, 3, 3, 4, 4, 4, 4, 4, 4, 4, 4, 5, 5, 5, 5, 5, 5, 5, 5, 5, 5, 5, 5, 5, 5, 5, 5, 6, 6, 6, 6, 6, 6, 6, 6, 6, 6, 6, 6, 6, 6, 6, 6, 6, 6, 6, 6, 6, 6, 6, 6, 6, 6, 6, 6, 6, 6, 6, 6, 7, 7, 7, 7, 7, 7, 7, 7, 7, 7, 7, 7, 7, 7, 7, 7, 7, 7, 7, 7, 7, 7, 7, 7, 7, 7, 7, 7, 7, 7, 7, 7, 7, 7, 7, 7, 7, 7, 7, 7, 7, 7, 7, 7, 7, 7, 7, 7, 7, 7, 7, 7, 7, 7, 7, 7, 7, 7, 7, 7, 7, 7, 7, 7, 8, 8, 8, 8, 8, 8, 8, 8, 8, 8, 8, 8, 8, 8, 8, 8, 8, 8, 8, 8, 8, 8, 8, 8, 8, 8, 8, 8, 8, 8, 8, 8, 8, 8, 8, 8, 8, 8, 8, 8, 8, 8, 8, 8, 8, 8, 8, 8, 8, 8, 8, 8, 8, 8, 8, 8, 8, 8, 8, 8, 8, 8, 8, 8, 8, 8, 8, 8, 8, 8, 8, 8, 8, 8, 8, 8, 8, 8, 8, 8, 8, 8, 8, 8, 8, 8, 8, 8, 8, 8, 8, 8, 8, 8, 8, 8, 8, 8, 8, 8, 8, 8, 8, 8, 8, 8, 8, 8, 8, 8, 8, 8, 8, 8, 8, 8, 8, 8, 8, 8, 8, 8, 8, 8, 8, 8, 8, 8]⟩ : ByteArray)).size := by show i.toNat < 256; omega
  unfold bt
  rw [dif_pos hs]
  exact congrArg Nat.cast (len8tab_get i.toNat hs)

theorem bitLen_split (x : Int) (b : Nat) (c : Int) (hc : c = ((2 ^ b : Nat) : Int)) (h0 : 0 ≤ x) (h : x / c ≠ 0) : ((bitLen x.toNat : Nat) : Int) = (b : Int) + ((bitLen (x / c).toNat : Nat) : Int) := by
  obtain ⟨n, rfl⟩ := Int.eq_ofNat_of_zero_le h0
  subst hc
  have e : (n : Int) / ((2 ^ b : Nat) : Int) = ((n / 2 ^ b : Nat) : Int) := (Int.natCast_ediv _ _).symm
  rw [e] at h ⊢
  have h' : n / 2 ^ b ≠ 0 := by intro hh; apply h; rw [hh]; rfl
  simp only [Int.toNat_natCast]
  rw [bitLen_shift n b h']; omega

theorem bitLen_le (x : Nat) (b : Nat) (h : x < 2 ^ b) : bitLen x ≤ b := by
  unfold bitLen; split
  · omega
  · rename_i h0; have := (Nat.log2_lt h0).2 h; omega

set_option maxRecDepth 1000000 in
theorem len_j0 (k : Nat) (x n : Int) (h1 : 0 ≤ x) (h2 : x < 4294967296) (n0 : 0 ≤ n) (n1 : n ≤ 32) : bits_Len64.j0 (k + 1) x n = some (n + ((bitLen x.toNat : Nat) : Int)) := by
  have w : ∀ (m y : Int), 0 ≤ m → m ≤ 64 → 0 ≤ y → y < 256 → wrap64 (m + wrap64 ((bitLen y.toNat : Nat) : Int)) = m + ((bitLen y.toNat : Nat) : Int) := by
    intro m y a b c d
    have := bitLen_le8 y.toNat (by omega)
    rw [iw_in ((bitLen y.toNat : Nat) : Int) (by omega) (by omega), iw_in _ (by omega) (by omega)]
  rw [bits_Len64.j0]
  by_cases a : x ≥ 65536
  · rw [if_pos a]
    have s1 := bitLen_split x 16 65536 rfl h1 (by omega)
    by_cases b : x / 65536 ≥ 256
    · have s2 := bitLen_split (x / 65536) 8 256 rfl (by omega) (by omega)
      have e : x / 65536 / 256 % 256 = x / 65536 / 256 := by omega
      rw [if_pos b, e, if_pos (by omega), if_pos (by omega), bt_tab _ (by omega) (by omega), iw_in (n + 16) (by omega) (by omega), iw_in (n + 16 + 8) (by omega) (by omega), w _ _ (by omega) (by omega) (by omega) (by omega), s1, s2]
      congr 1; omega
    · have e : x / 65536 % 256 = x / 65536 := by omega
      rw [if_neg b, e, if_pos (by omega), if_pos (by omega), bt_tab _ (by omega) (by omega), iw_in (n + 16) (by omega) (by omega), w _ _ (by omega) (by omega) (by omega) (by omega), s1]
      congr 1; omega
  · rw [if_neg a]
    by_cases b : x ≥ 256
    · have s2 := bitLen_split x 8 256 rfl (by omega) (by omega)
      have e : x / 256 % 256 = x / 256 := by omega
      rw [if_pos b, e, if_pos (by omega), if_pos (by omega), bt_tab _ (by omega) (by omega), iw_in (n + 8) (by omega) (by omega), w _ _ (by omega) (by omega) (by omega) (by omega), s2]
      congr 1; omega
    · have e : x % 256 = x := by omega
      rw [if_neg b, e, if_pos (by omega), if_pos (by omega), bt_tab _ (by omega) (by omega), w _ _ (by omega) (by omega) (by omega) (by omega)]

theorem len64_f (k : Nat) (x : Int) (h1 : 0 ≤ x) (h2 : x < 18446744073709551616) (hk : 1 ≤ k) : bits_Len64.f k x = some ((bitLen x.toNat : Nat) : Int) := by
  obtain ⟨k, rfl⟩ : ∃ m, k = m + 1 := ⟨k - 1, by omega⟩
  unfold bits_Len64.f
  by_cases a : x ≥ 4294967296
  · rw [if_pos a, len_j0 k _ _ (by omega) (by omega) (by omega) (by omega), bitLen_split x 32 4294967296 rfl h1 (by omega)]; rfl
  · rw [if_neg a, len_j0 k _ _ (by omega) (by omega) (by omega) (by omega)]; congr 1; omega

theorem emod_mul_right {a b c : Int} (h : 0 < c) : a * c % (b * c) = a % b * c := by
  rw [Int.mul_comm a c, Int.mul_comm b c, Int.mul_emod_mul_of_pos _ _ h, Int.mul_comm]

/-- bits.Div64. -/
theorem div64_f (k : Nat) (hi lo y : Int) (hh0 : 0 ≤ hi) (hl0 : 0 ≤ lo) (hl1 : lo ≤ 18446744073709551615) (hlt : hi < y) (hy1 : y ≤ 18446744073709551615) (hk : 9 ≤ k) :
    bits_Div64.f k hi lo y = some ((hi * 18446744073709551616 + lo) / y, (hi * 18446744073709551616 + lo) % y) := by
  unfold bits_Div64.f
  rw [if_neg (by omega), if_neg (by omega)]
  by_cases h0 : hi = 0
  · subst h0
    rw [if_pos rfl, Int.tdiv_eq_ediv_of_nonneg hl0, Int.tmod_eq_emod_of_nonneg hl0]
    have := Int.ediv_le_self y hl0
    have := Int.ediv_nonneg hl0 (show 0 ≤ y by omega)
    rw [uw_in _ (by omega) (by omega)]; simp
  · rw [if_neg h0]
    have ypos : 0 < y := by omega
    -- the shift
    obtain ⟨L, hL⟩ : ∃ L, bitLen y.toNat = L := ⟨_, rfl⟩
    have sp := bitLen_spec y.toNat
    rw [hL] at sp
    have hL64 : L ≤ 64 := by rw [← hL]; exact bitLen_le y.toNat 64 (by omega)
    have hL0 : L ≠ 0 := by intro h; rw [h] at sp; have := sp.1; simp at this; omega
    obtain ⟨sn, hs⟩ : ∃ sn, sn + L = 64 := ⟨64 - L, by omega⟩
    have ps := sp.2 (by omega)
    have pl := sp.1
    unfold bits_LeadingZeros64.f
    rw [len64_f k y (by omega) (by omega) (by omega), hL]
    simp only [Option.bind_some]
    have es : IntKind.u64.wrap (wrap64 (64 - (L : Int))) = (sn : Int) := by rw [iw_in _ (by omega) (by omega), uw]; omega
    have es2 : IntKind.u64.wrap (64 - (sn : Int)) = (L : Int) := by rw [uw]; omega
    rw [es, es2, if_pos (by omega), if_pos (by omega)]
    -- powers
    obtain ⟨P, hP⟩ : ∃ P : Int, P = ((2 ^ sn : Nat) : Int) := ⟨_, rfl⟩
    obtain ⟨W, hW⟩ : ∃ W : Int, W = ((2 ^ L : Nat) : Int) := ⟨_, rfl⟩
    have hPW : P * W = 18446744073709551616 := by
      rw [hP, hW, ← Int.natCast_mul, ← Nat.pow_add, hs]; rfl
    have hPpos : 0 < P := by rw [hP]; have := Nat.two_pow_pos sn; omega
    have hWpos : 0 < W := by rw [hW]; have := Nat.two_pow_pos L; omega
    have hyW : y < W := by rw [hW]; omega
    have hPw : (2 : Int) ^ (sn : Int).toNat = P := by rw [hP, Int.toNat_natCast]; simp
    have hWw : (2 : Int) ^ (L : Int).toNat = W := by rw [hW, Int.toNat_natCast]; simp
    have hPw' : (2 : Int) ^ sn = P := by rw [hP]; simp
    have hyP1 : y * P < 18446744073709551616 := by
      rw [← hPW, Int.mul_comm P W]; exact Int.mul_lt_mul_of_pos_right hyW hPpos
    have hyP0 : 9223372036854775808 ≤ y * P := by
      have hh : ((2 ^ (L - 1) : Nat) : Int) ≤ y := by omega
      have := Int.mul_le_mul_of_nonneg_right hh (Int.le_of_lt hPpos)
      rw [hP] at this ⊢
      have e : ((2 ^ (L - 1) : Nat) : Int) * ((2 ^ sn : Nat) : Int) = 9223372036854775808 := by
        rw [← Int.natCast_mul, ← Nat.pow_add, show L - 1 + sn = 63 by omega]; rfl
      omega
    have hhP : hi * P ≤ y * P - P := by
      have := Int.mul_le_mul_of_nonneg_right (show hi ≤ y - 1 by omega) (Int.le_of_lt hPpos)
      rw [Int.sub_mul, Int.one_mul] at this; exact this
    have hhP0 : 0 ≤ hi * P := Int.mul_nonneg hh0 (Int.le_of_lt hPpos)
    have hlW : lo / W < P := by apply lt_of_mul hWpos; rw [hPW]; omega
    have hlW0 : 0 ≤ lo / W := Int.ediv_nonneg hl0 (Int.le_of_lt hWpos)
    have d1 : shl .u64 y (sn : Int) = y * P := by rw [shl64 _ _ (by omega), hPw]; exact Int.emod_eq_of_lt (by omega) hyP1
    have d2 : shl .u64 hi (sn : Int) = hi * P := by rw [shl64 _ _ (by omega), hPw]; exact Int.emod_eq_of_lt hhP0 (by omega)
    have d3 : shr .u64 lo (L : Int) = lo / W := by rw [shr64 _ _ (by omega), hWw]
    have d4 : shl .u64 lo (sn : Int) = lo * P % 18446744073709551616 := by rw [shl64 _ _ (by omega), hPw]
    have d5 : bits .or .u64 (hi * P) (lo / W) = hi * P + lo / W := by
      apply or_add _ _ sn hhP0 (by omega) hlW0
      · rw [hPw']; exact Int.mul_emod_left _ _
      · rw [hPw']; exact hlW
      · omega
    have d6 : lo * P / 18446744073709551616 = lo / W := by
      rw [← hPW, Int.mul_comm P W, Int.mul_ediv_mul_of_pos_left _ _ hPpos]
    have d7 := Int.mul_ediv_add_emod (lo * P) 18446744073709551616
    have d8 : (hi * 18446744073709551616 + lo) * P = (hi * P + lo / W) * 18446744073709551616 + lo * P % 18446744073709551616 := by
      rw [Int.add_mul, ← d6]
      have : hi * 18446744073709551616 * P = hi * P * 18446744073709551616 := by rw [Int.mul_assoc, Int.mul_comm 18446744073709551616 P, Int.mul_assoc]
      rw [this]; generalize hi * P = X at *; generalize lo * P = Z at *; omega
    rw [d1, d2, d3, d4, d5]
    have v0 : 0 ≤ lo * P % 18446744073709551616 := Int.emod_nonneg _ (by omega)
    have v1 : lo * P % 18446744073709551616 < 18446744073709551616 := Int.emod_lt_of_pos _ (by omega)
    have goal : ∀ r, r = bits_Div64.l0 k (y * P) (sn : Int) (y * P / 4294967296) (y * P % 4294967296) (hi * P + lo / W) (lo * P % 18446744073709551616 / 4294967296) (lo * P % 18446744073709551616 % 4294967296) ((hi * P + lo / W) / (y * P / 4294967296)) ((hi * P + lo / W) % (y * P / 4294967296)) →
        r = some ((hi * 18446744073709551616 + lo) / y, (hi * 18446744073709551616 + lo) % y) := by
      intro r hr
      rw [hr]
      have lem := l0_f (y * P) (sn : Int) (y * P / 4294967296) (y * P % 4294967296) (hi * P + lo / W) (lo * P % 18446744073709551616 / 4294967296) (lo * P % 18446744073709551616 % 4294967296)
        (by omega) (by omega) (by omega) (by omega) (by omega) (by omega) (by omega) (by omega) (by omega) (by omega) (by omega) (by omega) 2 k
        ((hi * P + lo / W) % (y * P / 4294967296)) ((hi * P + lo / W) / (y * P / 4294967296))
      have a1 := Int.emod_nonneg (hi * P + lo / W) (show y * P / 4294967296 ≠ 0 by omega)
      have a2 := Int.emod_lt_of_pos (hi * P + lo / W) (show 0 < y * P / 4294967296 by omega)
      have a3 := Int.mul_ediv_add_emod (hi * P + lo / W) (y * P / 4294967296)
      have ediv : (hi * P + lo / W) / (y * P / 4294967296) ≤ 4294967297 := by
        have : (hi * P + lo / W) / (y * P / 4294967296) < 4294967298 := lt_of_mul (by omega) (by omega)
        omega
      rw [lem a1 (by omega) (by rw [Int.mul_comm ((hi * P + lo / W) / (y * P / 4294967296))]; omega) ediv ?_ (by omega) (by omega)]
      · have e9 : ((hi * P + lo / W) * 4294967296 + lo * P % 18446744073709551616 / 4294967296) * 4294967296 + lo * P % 18446744073709551616 % 4294967296 = (hi * 18446744073709551616 + lo) * P := by rw [d8]; omega
        rw [e9, Int.mul_ediv_mul_of_pos_left _ _ hPpos, emod_mul_right hPpos, shr64 _ _ (by omega), hPw, Int.mul_ediv_cancel _ (by omega)]
      · have : ((hi * P + lo / W) * 4294967296 + lo * P % 18446744073709551616 / 4294967296) / (y * P) < (hi * P + lo / W) / (y * P / 4294967296) + 1 := by
          apply lt_of_mul (by omega)
          generalize hq : (hi * P + lo / W) / (y * P / 4294967296) = q at *
          have q0 : 0 ≤ q := by rw [← hq]; exact Int.ediv_nonneg (by omega) (by omega)
          have a : (hi * P + lo / W) + 1 ≤ (q + 1) * (y * P / 4294967296) := by rw [Int.add_mul, Int.mul_comm q]; omega
          have b : 0 ≤ (q + 1) * (y * P % 4294967296) := Int.mul_nonneg (by omega) (by omega)
          have e : (q + 1) * (y * P) = (q + 1) * (y * P / 4294967296) * 4294967296 + (q + 1) * (y * P % 4294967296) := by
            have : y * P = (y * P / 4294967296) * 4294967296 + y * P % 4294967296 := by omega
            generalize y * P / 4294967296 = A at *; generalize y * P % 4294967296 = C at *
            rw [this]; grind
          rw [e]; generalize (q + 1) * (y * P / 4294967296) = A at *; generalize (q + 1) * (y * P % 4294967296) = C at *; omega
        omega
    rw [if_neg (by omega)]
    apply goal
    have b1 : 0 ≤ (hi * P + lo / W) / (y * P / 4294967296) := Int.ediv_nonneg (by omega) (by omega)
    have b2 : (hi * P + lo / W) / (y * P / 4294967296) ≤ hi * P + lo / W := Int.ediv_le_self _ (by omega)
    have b3 := Int.mul_ediv_add_emod (hi * P + lo / W) (y * P / 4294967296)
    have b4 := Int.emod_nonneg (hi * P + lo / W) (show y * P / 4294967296 ≠ 0 by omega)
    have b5 := Int.emod_lt_of_pos (hi * P + lo / W) (show 0 < y * P / 4294967296 by omega)
    rw [Int.tdiv_eq_ediv_of_nonneg (by omega), uw_in _ b1 (by omega), and_low32 _ (by omega) (by omega), and_low32 _ (by omega) (by omega)]
    have e2 : IntKind.u64.wrap ((hi * P + lo / W) - IntKind.u64.wrap ((hi * P + lo / W) / (y * P / 4294967296) * (y * P / 4294967296))) = (hi * P + lo / W) % (y * P / 4294967296) := by
      rw [Int.mul_comm ((hi * P + lo / W) / (y * P / 4294967296))]
      generalize (hi * P + lo / W) % (y * P / 4294967296) = r at *
      generalize y * P / 4294967296 * ((hi * P + lo / W) / (y * P / 4294967296)) = M at *
      simp only [uw]; omega
    rw [e2]

theorem size_f (a : Int) (h0 : -9223372036854775808 ≤ a) (h1 : a ≤ 9223372036854775807) : fixed_size.f a = some (ab a) := by
  unfold fixed_size.f ab
  by_cases h : a < 0
  · rw [if_pos h, if_pos h]; congr 1; simp only [uw]; omega
  · rw [if_neg h, if_neg h]; congr 1; simp only [uw]; omega

theorem signed_f (m : Int) (n : Bool) (h0 : 0 ≤ m) (h1 : m ≤ 18446744073709551615) : fixed_signed.f m n = some (ex (if n = true then -m else m)) := by
  unfold fixed_signed.f ex
  cases n with
  | true =>
    simp only [if_true]
    by_cases h : m > 9223372036854775808
    · rw [if_pos h, if_neg (by omega)]
    · rw [if_neg h, if_pos (by omega)]; congr 2; simp only [uw, iw]; omega
  | false =>
    simp only [Bool.false_eq_true, if_false]
    by_cases h : m ≥ 9223372036854775808
    · rw [if_pos h, if_neg (by omega)]
    · rw [if_neg h, if_pos (by omega)]; congr 2; simp only [iw]; omega

theorem exq {p q : Int} (h : p = q) : (some ((ex p).1, (ex p).2) : Option (Int × Bool)) = some (ex q) := by rw [h]

/-- What a quotient of two ints is made of: q, r, and the sign. -/
theorem quot (a b : Int) (ha0 : -9223372036854775808 ≤ a) (ha1 : a ≤ 9223372036854775807) (hb0 : -9223372036854775808 ≤ b) (hb1 : b ≤ 9223372036854775807) (hb : b ≠ 0)
    (hd : ¬ (a = -9223372036854775808 ∧ b = -1)) : ∃ (q r : Int) (s : Bool), (decide (a < 0) != decide (b < 0)) = s ∧ 0 ≤ q ∧ 0 ≤ r ∧ r < ab b ∧ ab a / ab b = q ∧ ab a % ab b = r ∧ (r ≠ 0 → 2 * q ≤ 9223372036854775808) ∧ q ≤ 9223372036854775808 ∧ (s = false → q ≤ 9223372036854775807) ∧
      Int.tdiv a b = (if s = true then -q else q) ∧ (Int.tmod a b = 0 ↔ r = 0) ∧
      fl (a * 1) b = (if s = true then (if r = 0 then -q else -q - 1) else q) ∧ ab (a - fl (a * 1) b * b) = (if s = true then (if r = 0 then 0 else ab b - r) else r) ∧ (fl (a * 1) b * b = a ↔ r = 0) ∧ (r = 0 → fl (a * 1) b * b = a) := by
  have C2 := ab_pos hb
  have hA0 := ab_nonneg a; have hA1 := ab_le ha0 ha1
  have hfl := fl_ab a 1 b hb
  have h1 : ab 1 = 1 := rfl
  have htd := tdiv_ab a b
  have htm := tmod_ab a b
  rw [h1, show ab a * 1 = ab a from Int.mul_one _, show decide ((1 : Int) < 0) = false from rfl] at hfl
  have e0 : (decide (a < 0) != false) = decide (a < 0) := by simp
  rw [e0] at hfl
  have hq0 : 0 ≤ ab a / ab b := Int.ediv_nonneg hA0 (by omega)
  have hq1 : ab a / ab b ≤ ab a := Int.ediv_le_self _ hA0
  have hm := Int.mul_ediv_add_emod (ab a) (ab b)
  have hr0 := Int.emod_nonneg (ab a) (show ab b ≠ 0 by omega)
  have hr1 := Int.emod_lt_of_pos (ab a) C2
  refine ⟨ab a / ab b, ab a % ab b, _, rfl, hq0, hr0, hr1, rfl, rfl, ?_, by omega, ?_, htd, ?_, hfl, ?_, ?_, ?_⟩
  · intro hr
    have := Int.mul_le_mul_of_nonneg_right (show 2 ≤ ab b by omega) hq0
    omega
  · intro hs
    by_cases hc : ab b = 1
    · have : ab a ≤ 9223372036854775807 := by
        unfold ab at hc ⊢
        by_cases x : a < 0 <;> by_cases y : b < 0 <;> simp [x, y] at hs hc ⊢ <;> omega
      omega
    · have := Int.mul_le_mul_of_nonneg_right (show 2 ≤ ab b by omega) hq0
      omega
  · rw [htm]; split <;> omega
  all_goals
    rw [hfl]
    generalize ab a / ab b = q at *
    generalize ab a % ab b = r at *
    have hea : ab a = if a < 0 then -a else a := rfl
    have heb : ab b = if b < 0 then -b else b := rfl
    rw [heb] at hm
    by_cases x : a < 0 <;> by_cases y : b < 0
  all_goals
    simp only [x, y, decide_true, decide_false, if_true, if_false, bne_self_eq_false, Bool.false_eq_true, bne_iff_ne, ne_eq, not_false_iff, Bool.true_bne, Bool.false_bne, Bool.not_true, Bool.not_false] at *
    rw [Int.mul_comm] at hm
    have k1 : q * -b = -(q * b) := Int.mul_neg _ _
    have k2 : -q * b = -(q * b) := Int.neg_mul _ _
    have k3 : (-q - 1) * b = -(q * b) - b := by rw [Int.sub_mul, Int.neg_mul, Int.one_mul]
    have k4 : ∀ z, ab z = if z < 0 then -z else z := fun _ => rfl
    (try simp only [k4])
    by_cases hr : r = 0
    all_goals
      (try simp only [hr, if_true, if_false, true_implies, false_implies, iff_true, iff_false])
      (try rw [k1] at hm)
      (try rw [k2])
      (try rw [k3])
      (try generalize q * b = Z at *)
      (try split)
      all_goals (try simp only [implies_true]) <;> omega

theorem floor_f (a b : Int) (ha0 : -9223372036854775808 ≤ a) (ha1 : a ≤ 9223372036854775807) (hb0 : -9223372036854775808 ≤ b) (hb1 : b ≤ 9223372036854775807) : fixed_Floor.f a b = some (md a 1 b) := by
  unfold fixed_Floor.f fixed_divides.f md
  by_cases hb : b = 0
  · subst hb; rfl
  · rw [if_neg hb, if_neg hb]
    by_cases hd : a = -9223372036854775808 ∧ b = -1
    · obtain ⟨rfl, rfl⟩ := hd; rfl
    · have e : (if b = -1 then some (a != -9223372036854775808) else some true : Option Bool) = some true := by
        split
        · rw [show (a != -9223372036854775808) = true from by simp; omega]
        · rfl
      rw [e]; simp only [Option.bind_some, if_true]
      rw [if_neg hb]
      obtain ⟨q, r, s, hs, q0, r0, r1, -, -, hr2, q1, hs2, htd, htm, hfl, -⟩ := quot a b ha0 ha1 hb0 hb1 hb hd
      rw [hfl, htd, hs]
      cases s with
      | true =>
        simp only [if_true] at *
        by_cases hr : r = 0
        · rw [if_pos (htm.2 hr), if_pos hr, ex_in (by omega), iw_in _ (by omega) (by omega)]
        · rw [if_neg (fun h => hr (htm.1 h)), if_neg hr, ex_in (by omega), iw_in (-q) (by omega) (by omega), iw_in (-q - 1) (by omega) (by omega)]
      | false =>
        have hs3 := hs2 rfl
        simp only [Bool.false_eq_true, if_false] at *
        rw [ex_in (by omega), iw_in _ (by omega) (by omega)]; split <;> rfl

theorem mul_f (a b : Int) (ha0 : -9223372036854775808 ≤ a) (ha1 : a ≤ 9223372036854775807) (hb0 : -9223372036854775808 ≤ b) (hb1 : b ≤ 9223372036854775807) : fixed_Mul.f a b = some (ex (a * b)) := by
  have A0 := ab_nonneg a; have A1 := ab_le ha0 ha1
  have B0 := ab_nonneg b; have B1 := ab_le hb0 hb1
  have P0 : 0 ≤ ab a * ab b := Int.mul_nonneg A0 B0
  have P1 : ab a * ab b ≤ 9223372036854775808 * 9223372036854775808 := Int.mul_le_mul A1 B1 B0 (by omega)
  unfold fixed_Mul.f
  rw [size_f a ha0 ha1, size_f b hb0 hb1]
  simp only [Option.bind_some]
  rw [mul64_f _ _ A0 (by omega) B0 (by omega)]
  simp only [Option.bind_some]
  rw [mul_ab a b]
  generalize ab a * ab b = P at *
  by_cases h : P / 18446744073709551616 = 0
  · rw [if_pos h, signed_f _ _ (by omega) (by omega)]
    have e : P % 18446744073709551616 = P := by omega
    rw [e]; rfl
  · rw [if_neg h, ex_out (by split <;> omega)]

theorem neg_bits (op : BinOp) (x y : Int) : bits op .i64 x y < 0 ↔ (match op with
    | .and => BitVec.ofInt 64 x &&& BitVec.ofInt 64 y
    | .or => BitVec.ofInt 64 x ||| BitVec.ofInt 64 y
    | .xor => BitVec.ofInt 64 x ^^^ BitVec.ofInt 64 y
    | _ => BitVec.ofInt 64 x &&& ~~~(BitVec.ofInt 64 y)).msb = true := by
  show IntKind.i64.wrap _ < 0 ↔ _
  have w : ∀ v : BitVec 64, IntKind.i64.wrap (v.toNat : Int) < 0 ↔ v.msb = true := by
    intro v
    have hv := v.isLt
    rw [BitVec.msb_eq_decide]
    simp only [IntKind.wrap, IntKind.bits, IntKind.signed, decide_eq_true_iff]
    simp
    split <;> omega
  exact w _

theorem msb_ofInt (x : Int) (h0 : -9223372036854775808 ≤ x) (h1 : x ≤ 9223372036854775807) : (BitVec.ofInt 64 x).msb = decide (x < 0) := by
  rw [BitVec.msb_eq_decide, BitVec.toNat_ofInt]
  apply decide_eq_decide.2
  omega

theorem xor_neg (x y : Int) (hx0 : -9223372036854775808 ≤ x) (hx1 : x ≤ 9223372036854775807) (hy0 : -9223372036854775808 ≤ y) (hy1 : y ≤ 9223372036854775807) : bits .xor .i64 x y < 0 ↔ ¬ (x < 0 ↔ y < 0) := by
  rw [neg_bits]; simp only [BitVec.msb_xor, msb_ofInt x hx0 hx1, msb_ofInt y hy0 hy1]
  by_cases a : x < 0 <;> by_cases b : y < 0 <;> simp [a, b]

theorem and_neg (x y : Int) (hx0 : -9223372036854775808 ≤ x) (hx1 : x ≤ 9223372036854775807) (hy0 : -9223372036854775808 ≤ y) (hy1 : y ≤ 9223372036854775807) : bits .and .i64 x y < 0 ↔ (x < 0 ∧ y < 0) := by
  rw [neg_bits]; simp only [BitVec.msb_and, msb_ofInt x hx0 hx1, msb_ofInt y hy0 hy1]
  by_cases a : x < 0 <;> by_cases b : y < 0 <;> simp [a, b]

theorem bits_in (op : BinOp) (x y : Int) : -9223372036854775808 ≤ bits op .i64 x y ∧ bits op .i64 x y ≤ 9223372036854775807 := by
  have w : ∀ n : Int, -9223372036854775808 ≤ IntKind.i64.wrap n ∧ IntKind.i64.wrap n ≤ 9223372036854775807 := by
    intro n; simp only [IntKind.wrap, IntKind.bits, IntKind.signed]; simp; split <;> omega
  exact w _

theorem add_f (a b : Int) (ha0 : -9223372036854775808 ≤ a) (ha1 : a ≤ 9223372036854775807) (hb0 : -9223372036854775808 ≤ b) (hb1 : b ≤ 9223372036854775807) : fixed_Add.f a b = some (ex (a + b)) := by
  have hw : -9223372036854775808 ≤ wrap64 (a + b) ∧ wrap64 (a + b) ≤ 9223372036854775807 := by rw [iw]; omega
  have t : bits .and .i64 (bits .xor .i64 a (wrap64 (a + b))) (bits .xor .i64 b (wrap64 (a + b))) < 0 ↔ ¬ (-9223372036854775808 ≤ a + b ∧ a + b ≤ 9223372036854775807) := by
    rw [and_neg _ _ (bits_in _ _ _).1 (bits_in _ _ _).2 (bits_in _ _ _).1 (bits_in _ _ _).2, xor_neg _ _ ha0 ha1 hw.1 hw.2, xor_neg _ _ hb0 hb1 hw.1 hw.2, iw]
    omega
  unfold fixed_Add.f
  by_cases h : -9223372036854775808 ≤ a + b ∧ a + b ≤ 9223372036854775807
  · rw [if_neg (fun x => t.1 x h), ex_in h, iw_in _ h.1 h.2]
  · rw [if_pos (t.2 h), ex_out h]

/-- The quotient rounded up, checked. -/
def ce (a b : Int) : Int × Bool := if b = 0 then (0, false) else if a = -9223372036854775808 ∧ b = -1 then (0, false) else if Int.tmod a b = 0 then (fl (a * 1) b, true) else (fl (a * 1) b + 1, true)

theorem md_bad (b : Int) : md (-9223372036854775808) 1 (-1) = (0, false) := rfl

/-- Where the quotient is an int. -/
theorem md_ok (a b : Int) (ha0 : -9223372036854775808 ≤ a) (ha1 : a ≤ 9223372036854775807) (hb0 : -9223372036854775808 ≤ b) (hb1 : b ≤ 9223372036854775807) (hb : b ≠ 0)
    (hd : ¬ (a = -9223372036854775808 ∧ b = -1)) : -9223372036854775808 ≤ fl (a * 1) b ∧ fl (a * 1) b ≤ 9223372036854775807 ∧ md a 1 b = (fl (a * 1) b, true) ∧ (Int.tmod a b ≠ 0 → fl (a * 1) b + 1 ≤ 4611686018427387905) := by
  obtain ⟨q, r, s, hs, q0, r0, r1, -, -, hr2, q1, hs2, htd, htm, hfl, -⟩ := quot a b ha0 ha1 hb0 hb1 hb hd
  have hm : -9223372036854775808 ≤ fl (a * 1) b ∧ fl (a * 1) b ≤ 9223372036854775807 ∧ (Int.tmod a b ≠ 0 → fl (a * 1) b + 1 ≤ 4611686018427387905) := by
    rw [hfl]
    cases s with
    | true =>
      simp only [if_true]
      by_cases hr : r = 0
      · rw [if_pos hr]; exact ⟨by omega, by omega, fun h => absurd (htm.2 hr) h⟩
      · rw [if_neg hr]; have := hr2 hr; exact ⟨by omega, by omega, fun h => by omega⟩
    | false =>
      have hs3 := hs2 rfl
      simp only [Bool.false_eq_true, if_false]
      refine ⟨by omega, by omega, fun h => ?_⟩
      have := hr2 (fun h' => h (htm.2 h')); omega
  refine ⟨hm.1, hm.2.1, ?_, hm.2.2⟩
  unfold md; rw [if_neg hb, ex_in ⟨hm.1, hm.2.1⟩]

theorem divides_ok (a b : Int) (hb : b ≠ 0) (hd : ¬ (a = -9223372036854775808 ∧ b = -1)) : fixed_divides.f a b = some true := by
  unfold fixed_divides.f
  rw [if_neg hb]
  split
  · rw [show (a != -9223372036854775808) = true from by simp; omega]
  · rfl

/-- The rest of the quotient rounded down: its size. -/
def rs (a b : Int) : Int := ab (a - fl (a * 1) b * b)

/-- The nearest quotient. -/
def nr (a b : Int) : Int × Bool := if b = 0 then (0, false) else if a = -9223372036854775808 ∧ b = -1 then (0, false) else
  if rs a b > ab b - rs a b then (fl (a * 1) b + 1, true) else if rs a b = ab b - rs a b then (if Int.tmod (fl (a * 1) b) 2 = 0 then (fl (a * 1) b, true) else (fl (a * 1) b + 1, true)) else (fl (a * 1) b, true)

theorem rs_b (a b : Int) (ha0 : -9223372036854775808 ≤ a) (ha1 : a ≤ 9223372036854775807) (hb0 : -9223372036854775808 ≤ b) (hb1 : b ≤ 9223372036854775807) (hb : b ≠ 0)
    (hd : ¬ (a = -9223372036854775808 ∧ b = -1)) : 0 ≤ rs a b ∧ rs a b < ab b ∧ (rs a b ≠ 0 → Int.tmod a b ≠ 0) := by
  obtain ⟨q, r, s, hs, q0, r0, r1, -, -, hr2, q1, hs2, htd, htm, hfl, hrs, hex, hex2⟩ := quot a b ha0 ha1 hb0 hb1 hb hd
  unfold rs; rw [hrs]
  cases s with
  | true =>
    simp only [if_true]
    by_cases hr : r = 0
    · rw [if_pos hr]; exact ⟨by omega, by omega, fun h => absurd rfl h⟩
    · rw [if_neg hr]; exact ⟨by omega, by omega, fun _ h => hr (htm.1 h)⟩
  | false => simp only [Bool.false_eq_true, if_false]; exact ⟨r0, r1, fun h h' => h (htm.1 h')⟩

end Go.Proofs.Ytcnckfhibmlioaa.FxFa
