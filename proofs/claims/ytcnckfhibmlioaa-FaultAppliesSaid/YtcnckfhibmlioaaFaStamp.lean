/- Facts about the printed functions of the layer 'fixed' (and bits), turned to this seat by a program of this session (wip/tools/port.py). -/
import Derived.Test.YtcnckfhibmlioaaFaFixed
namespace Go.Proofs.Ytcnckfhibmlioaa.StFa
set_option linter.unusedVariables false
set_option linter.unusedSimpArgs false
open Go Go.RowKit Go.Proofs.Ytcnckfhibmlioaa.FxFa Go.Proofs.Ytcnckfhibmlioaa.PFa Go.Proofs.Ytcnckfhibmlioaa.Math Go.Proofs.YtcnckfhibmlioaaW.PrintWords Go.Proofs.YtcnckfhibmlioaaW.PrintLast Go.Proofs.YtcnckfhibmlioaaW.PrintMore



/-- The units of an instant: not yet a word. -/
def un (t : Int) : Int := t * 4294967296 / 1000000000

theorem wfu32 {a : Int} (h : (Lit.int .u32 a).wf = true) : 0 ≤ a ∧ a ≤ 4294967295 := by
  simpa [Lit.wf, IntKind.min, IntKind.max, IntKind.signed, IntKind.bits] using h

theorem modq (P : Int) (h : 0 ≤ P) : ∃ c, 0 ≤ c ∧ P / 1000000000 = (P / 18446744073709551616 % 1000000000 * 18446744073709551616 + P % 18446744073709551616) / 1000000000 + c * 18446744073709551616 ∧
    (P / 18446744073709551616 % 1000000000 * 18446744073709551616 + P % 18446744073709551616) % 1000000000 = P % 1000000000 := by
  have e : P = (P / 18446744073709551616 % 1000000000 * 18446744073709551616 + P % 18446744073709551616) + (P / 18446744073709551616 / 1000000000 * 18446744073709551616) * 1000000000 := by omega
  have hc : 0 ≤ P / 18446744073709551616 / 1000000000 := by omega
  generalize P / 18446744073709551616 % 1000000000 * 18446744073709551616 + P % 18446744073709551616 = V at *
  generalize P / 18446744073709551616 / 1000000000 = c at *
  refine ⟨c, hc, ?_, ?_⟩
  · rw [e, Int.add_mul_ediv_right _ _ (by omega)]
  · rw [e, Int.add_mul_emod_self_right]

theorem of_f (k : Nat) (t : Int) (h0 : -9223372036854775808 ≤ t) (h1 : t ≤ 9223372036854775807) (hk : 10 ≤ k) : stamp_Of.f k t = some (un t % 18446744073709551616) := by
  obtain ⟨k, rfl⟩ : ∃ m, k = m + 1 := ⟨k - 1, by omega⟩
  have main : ∀ n, n = ab t → stamp_Of.j0 (k + 1) t n = some (un t % 18446744073709551616) := by
    intro n hn
    have n0 := ab_nonneg t; have n1 := ab_le h0 h1
    rw [← hn] at n0 n1
    simp only [stamp_Of.j0]
    rw [mul64_f n 4294967296 n0 (by omega) (by omega) (by omega)]
    simp only [Option.bind_some]
    rw [Int.tmod_eq_emod_of_nonneg (by omega), div64_f k _ _ _ (by omega) (by omega) (by omega) (by omega) (by omega) (by omega)]
    simp only [Option.bind_some]
    obtain ⟨c, c0, hq, hr⟩ := modq (n * 4294967296) (by omega)
    have q0 : 0 ≤ (n * 4294967296 / 18446744073709551616 % 1000000000 * 18446744073709551616 + n * 4294967296 % 18446744073709551616) / 1000000000 := by omega
    have q1 : (n * 4294967296 / 18446744073709551616 % 1000000000 * 18446744073709551616 + n * 4294967296 % 18446744073709551616) / 1000000000 < 18446744073709551616 := by omega
    rw [hr]
    generalize (n * 4294967296 / 18446744073709551616 % 1000000000 * 18446744073709551616 + n * 4294967296 % 18446744073709551616) / 1000000000 = q at *
    have hng := neg_ediv_pos (N := n * 4294967296) (C := 1000000000) (by omega)
    unfold ab at hn; unfold un
    by_cases h : t ≥ 0
    · rw [if_pos h]; rw [if_neg (by omega)] at hn; subst hn
      rw [hq]; congr 1; clear hng hr hq; omega
    · rw [if_neg h]; rw [if_pos (by omega)] at hn
      have ht : t * 4294967296 = -(n * 4294967296) := by omega
      rw [ht, hng]
      have hr0 := Int.emod_nonneg (n * 4294967296) (show (1000000000 : Int) ≠ 0 by omega)
      generalize n * 4294967296 / 1000000000 = D at *
      generalize n * 4294967296 % 1000000000 = R at *
      clear hng hr hn ht
      by_cases hz : R > 0
      · rw [if_pos hz, if_neg (by omega)]; congr 1; simp only [uw]; omega
      · rw [if_neg hz, if_pos (by omega)]; congr 1; simp only [uw]; omega
  unfold stamp_Of.f
  by_cases h : t < 0
  · rw [if_pos h]; apply main; unfold ab; rw [if_pos h]; simp only [uw]; omega
  · rw [if_neg h]; apply main; unfold ab; rw [if_neg h]; simp only [uw]; omega

theorem era_f (t : Int) (h0 : -9223372036854775808 ≤ t) (h1 : t ≤ 9223372036854775807) : stamp_Era.f t = some (t / 4294967296000000000) := by
  unfold stamp_Era.f
  rw [floor_f t _ h0 h1 (by omega) (by omega)]
  unfold md fl
  rw [if_neg (by omega), if_pos (by omega), Int.mul_one, ex_in (by omega)]; rfl

/-- A difference of words, as an int. -/
def sg (d : Int) : Int := (d + 9223372036854775808) % 18446744073709551616 - 9223372036854775808

theorem diff_f (a b : Int) : stamp_Diff.f a b = some (sg (a - b)) := by
  unfold stamp_Diff.f sg; congr 1; simp only [uw, iw]; omega

theorem and_low32i (z : Int) (h0 : -9223372036854775808 ≤ z) (h1 : z ≤ 9223372036854775807) : bits .and .i64 z 4294967295 = z % 4294967296 := by
  show IntKind.i64.wrap ((BitVec.ofInt 64 z &&& BitVec.ofInt 64 4294967295).toNat : Int) = _
  have e : (BitVec.ofInt 64 z &&& BitVec.ofInt 64 4294967295).toNat = (z % 18446744073709551616).toNat % 4294967296 := by
    rw [BitVec.toNat_and, BitVec.toNat_ofInt, BitVec.toNat_ofInt]
    have : ((4294967295 : Int) % ((2 ^ 64 : Nat) : Int)).toNat = 2 ^ 32 - 1 := by decide
    rw [this, Nat.and_two_pow_sub_one_eq_mod]; rfl
  rw [e]
  simp only [IntKind.wrap, IntKind.bits, IntKind.signed]
  simp
  omega

/-- The nanoseconds of units, rounded up. -/
def ns (u : Int) : Int := -((-(u * 1000000000)) / 4294967296)

theorem ns_eq (u : Int) : ns u = if u * 1000000000 % 4294967296 = 0 then u * 1000000000 / 4294967296 else u * 1000000000 / 4294967296 + 1 := by
  unfold ns
  rw [neg_ediv_pos (by omega)]
  split <;> omega

theorem ns_add (n s : Int) : ns (n * 18446744073709551616 + s) = n * 4294967296000000000 + ns s := by
  unfold ns
  have e : -((n * 18446744073709551616 + s) * 1000000000) = -(s * 1000000000) + (-(n * 4294967296000000000)) * 4294967296 := by omega
  rw [e, Int.add_mul_ediv_right _ _ (by omega)]
  omega

theorem ns_hi (h l : Int) : ns (h * 4294967296 + l) = h * 1000000000 + ns l := by
  unfold ns
  have e : -((h * 4294967296 + l) * 1000000000) = -(l * 1000000000) + (-(h * 1000000000)) * 4294967296 := by omega
  rw [e, Int.add_mul_ediv_right _ _ (by omega)]
  omega

/-- The instant of a timestamp near a pivot. -/
def tm (s p : Int) : Int × Int := if p < -8000000000000000000 ∨ p > 8000000000000000000 then (0, 2) else
  let t := ns (un p + sg (s - un p % 18446744073709551616)); if t < -8000000000000000000 ∨ t > 8000000000000000000 then (0, 3) else (t, 0)

set_option maxHeartbeats 800000 in
theorem time_f (k : Nat) (s p : Int) (s0 : 0 ≤ s) (s1 : s ≤ 18446744073709551615) (h0 : -9223372036854775808 ≤ p) (h1 : p ≤ 9223372036854775807) (hk : 20 ≤ k) : stamp_Time.f k s p = some (tm s p) := by
  obtain ⟨k, rfl⟩ : ∃ m, k = m + 4 := ⟨k - 4, by omega⟩
  unfold stamp_Time.f tm
  have bad : stamp_Time.j0 (k + 4) s p true = some (0, 2) := by
    have hk2 : k + 4 = (k + 3) + 1 := rfl
    rw [hk2]; simp only [stamp_Time.j0, if_true]
  by_cases hp : p < -8000000000000000000 ∨ p > 8000000000000000000
  · rw [if_pos hp]
    rcases hp with hp | hp
    · rw [if_pos hp]; exact bad
    · rw [if_neg (by omega), show decide (p > 8000000000000000000) = true from decide_eq_true hp]; exact bad
  · rw [if_neg hp, if_neg (by omega), show decide (p > 8000000000000000000) = false from decide_eq_false (by omega)]
    have hk2 : k + 4 = (k + 3) + 1 := rfl
    rw [hk2]; simp only [stamp_Time.j0, Bool.false_eq_true, if_false]
    rw [of_f (k + 3) p h0 h1 (by omega), era_f p h0 h1]
    simp only [Option.bind_some]
    rw [diff_f]
    simp only [Option.bind_some]
    generalize hd : sg (s - un p % 18446744073709551616) = d
    unfold sg at hd
    -- the last part
    have last : ∀ n', -3 ≤ n' → n' ≤ 2 → n' * 18446744073709551616 + s = un p + d → stamp_Time.j2 (k + 2) s n' = some (if ns (un p + d) < -8000000000000000000 ∨ ns (un p + d) > 8000000000000000000 then (0, 3) else (ns (un p + d), 0)) := by
      intro n' hn0 hn1 hX
      rw [← hX]
      have hk3 : k + 2 = (k + 1) + 1 := rfl
      rw [hk3]; simp only [stamp_Time.j2]
      rw [mul64_f s 1000000000 s0 s1 (by omega) (by omega)]
      simp only [Option.bind_some]
      rw [and_low32 _ (by omega) (by omega), uw_in (s * 1000000000 / 18446744073709551616 * 4294967296) (by omega) (by omega)]
      have e1 : bits .or .u64 (s * 1000000000 / 18446744073709551616 * 4294967296) (s * 1000000000 % 18446744073709551616 / 4294967296) = s * 1000000000 / 4294967296 := by
        rw [or_add _ _ 32 (by omega) (by omega) (by omega) (by omega) (by omega) (by omega)]; omega
      rw [e1, iw_in (s * 1000000000 / 4294967296) (by omega) (by omega), iw_in (s * 1000000000 / 4294967296 + 1) (by omega) (by omega)]
      have fin : ∀ ins, 0 ≤ ins → ins ≤ 4294967296000000000 → stamp_Time.j3 (k + 1) n' ins = some (if n' * 4294967296000000000 + ins < -8000000000000000000 ∨ n' * 4294967296000000000 + ins > 8000000000000000000 then (0, 3) else (n' * 4294967296000000000 + ins, 0)) := by
        intro ins i0 i1
        clear hX hd e1
        simp only [stamp_Time.j3]
        rw [mul_f n' _ (by omega) (by omega) (by omega) (by omega)]
        simp only [Option.bind_some]
        by_cases hb : -9223372036854775808 ≤ n' * 4294967296000000000 ∧ n' * 4294967296000000000 ≤ 9223372036854775807
        · rw [ex_in hb]; simp only [if_true]
          rw [add_f _ _ hb.1 hb.2 (by omega) (by omega)]
          simp only [Option.bind_some]
          by_cases ha : -9223372036854775808 ≤ n' * 4294967296000000000 + ins ∧ n' * 4294967296000000000 + ins ≤ 9223372036854775807
          · rw [ex_in ha]; simp only [if_true]
            by_cases t1 : n' * 4294967296000000000 + ins < -8000000000000000000
            · rw [if_pos t1, if_pos (.inl t1)]
            · rw [if_neg t1]
              by_cases t2 : n' * 4294967296000000000 + ins > 8000000000000000000
              · rw [if_pos t2, if_pos (.inr t2)]
              · rw [if_neg t2, if_neg (by omega)]
          · have key : n' * 4294967296000000000 + ins < -8000000000000000000 ∨ n' * 4294967296000000000 + ins > 8000000000000000000 := by omega
            rw [ex_out ha]; simp only [Bool.false_eq_true, if_false]; rw [if_pos key]
        · have key : n' * 4294967296000000000 + ins < -8000000000000000000 ∨ n' * 4294967296000000000 + ins > 8000000000000000000 := by
            have : n' = -3 := by omega
            subst this; omega
          have hadd : fixed_Add.f 0 ins = some (ex (0 + ins)) := add_f 0 ins (by omega) (by omega) (by omega) (by omega)
          rw [ex_out hb]
          simp only
          rw [hadd, if_pos key]
          simp only [Option.bind_some, Bool.false_eq_true, if_false]
      rw [ns_add, ns_eq s]
      have i0 : 0 ≤ s * 1000000000 / 4294967296 := by omega
      have i1 : s * 1000000000 / 4294967296 + 1 ≤ 4294967296000000000 := by omega
      have hm : s * 1000000000 % 18446744073709551616 % 4294967296 = s * 1000000000 % 4294967296 := by omega
      rw [hm]
      by_cases hz : s * 1000000000 % 4294967296 = 0
      · rw [if_pos hz, if_pos hz]; exact fin _ i0 (by omega)
      · rw [if_neg hz, if_neg hz]; exact fin _ (by omega) i1
    have hE : p / 4294967296000000000 = un p / 18446744073709551616 := by unfold un; omega
    have hE0 : -2 ≤ p / 4294967296000000000 ∧ p / 4294967296000000000 ≤ 1 := by omega
    rw [hE] at hE0 ⊢
    generalize un p = U at *
    have hk3 : k + 3 = (k + 2) + 1 := rfl
    by_cases hd0 : d ≥ 0
    · rw [if_pos hd0]
      by_cases hlt : s < U % 18446744073709551616
      · rw [show decide (s < U % 18446744073709551616) = true from decide_eq_true hlt, hk3]
        simp only [stamp_Time.j1, if_true]
        rw [iw_in _ (by omega) (by omega)]
        exact last _ (by omega) (by omega) (by omega)
      · rw [show decide (s < U % 18446744073709551616) = false from decide_eq_false hlt, hk3]
        simp only [stamp_Time.j1, Bool.false_eq_true, if_false]
        rw [if_neg (by omega)]
        exact last _ (by omega) (by omega) (by omega)
    · rw [if_neg hd0, hk3]
      simp only [stamp_Time.j1, Bool.false_eq_true, if_false]
      rw [if_pos (by omega)]
      by_cases hgt : s > U % 18446744073709551616
      · rw [if_pos hgt, iw_in _ (by omega) (by omega)]
        exact last _ (by omega) (by omega) (by omega)
      · rw [if_neg hgt]
        exact last _ (by omega) (by omega) (by omega)

/-- The short form: units of 2^-16 s, rounded up. -/
def sh (n : Int) : Int := -((-n * 65536) / 1000000000)

def shS (n : Int) : Int × Int := if n < 0 ∨ sh n > 4294967295 then (0, 3) else (sh n, 0)

def lo (s : Int) : Int := (s * 1000000000 + 65535) / 65536

theorem un_b (t : Int) : 1000000000 * un t ≤ t * 4294967296 ∧ t * 4294967296 < 1000000000 * un t + 1000000000 := by unfold un; omega

theorem ns_b (u : Int) : u * 1000000000 ≤ 4294967296 * ns u ∧ 4294967296 * ns u < u * 1000000000 + 4294967296 := by unfold ns; omega

theorem ns_un (t : Int) : ns (un t) = t := by
  have a := un_b t
  have b := ns_b (un t)
  generalize un t = U at *
  generalize ns U = N at *
  omega

theorem un_ns (x : Int) : x ≤ un (ns x) ∧ un (ns x) ≤ x + 4 := by
  have a := ns_b x
  have b := un_b (ns x)
  generalize ns x = N at *
  generalize un N = U at *
  omega

theorem sg_in (d : Int) (h0 : -9223372036854775808 ≤ d) (h1 : d ≤ 9223372036854775807) : sg d = d := by unfold sg; omega

theorem sg_mod (a b : Int) (h0 : -9223372036854775808 ≤ a - b) (h1 : a - b ≤ 9223372036854775807) : sg (a % 18446744073709551616 - b % 18446744073709551616) = a - b := by unfold sg; omega

theorem un_near (t p : Int) (h : t - p < 2147483648000000000) (h2 : p - t < 2147483648000000000) : -9223372036854775808 ≤ un t - un p ∧ un t - un p ≤ 9223372036854775807 := by
  have a := un_b t; have b := un_b p
  generalize un t = U at *; generalize un p = V at *
  omega

/-- A timestamp is read back. -/
theorem tm_back (t p : Int) (ht0 : -8000000000000000000 ≤ t) (ht1 : t ≤ 8000000000000000000) (hp0 : -8000000000000000000 ≤ p) (hp1 : p ≤ 8000000000000000000) (h : t - p < 2147483648000000000) (h2 : p - t < 2147483648000000000) : tm (un t % 18446744073709551616) p = (t, 0) := by
  obtain ⟨n0, n1⟩ := un_near t p h h2
  unfold tm
  rw [if_neg (by omega), sg_mod _ _ n0 n1, show un p + (un t - un p) = un t by omega, ns_un]
  simp only
  rw [if_neg (by omega)]

theorem un_mono (a b : Int) (h : a ≤ b) : un a ≤ un b := by
  have x := un_b a; have y := un_b b
  generalize un a = U at *; generalize un b = V at *
  omega

/-- What Time gives is near the pivot, and near the timestamp. -/
theorem tm_near (s p : Int) (s0 : 0 ≤ s) (s1 : s ≤ 18446744073709551615) (hp0 : -8000000000000000000 ≤ p) (hp1 : p ≤ 8000000000000000000) :
    (tm s p = (0, 3) ∧ (p > 5852516351999999998 ∨ p < -5852516351999999998)) ∨ (∃ t, tm s p = (t, 0) ∧ -8000000000000000000 ≤ t ∧ t ≤ 8000000000000000000 ∧ t - p ≤ 2147483648000000001 ∧ p - t ≤ 2147483648000000001 ∧ 0 ≤ sg (un t % 18446744073709551616 - s) ∧ sg (un t % 18446744073709551616 - s) ≤ 4) := by
  unfold tm
  rw [if_neg (by omega)]
  have hd0 : -9223372036854775808 ≤ sg (s - un p % 18446744073709551616) ∧ sg (s - un p % 18446744073709551616) ≤ 9223372036854775807 := by unfold sg; omega
  have hx : ∃ c, un p + sg (s - un p % 18446744073709551616) = s + 18446744073709551616 * c := by
    unfold sg
    refine ⟨un p / 18446744073709551616 - (s - un p % 18446744073709551616 + 9223372036854775808) / 18446744073709551616, ?_⟩
    omega
  obtain ⟨c, hx⟩ := hx
  have ub := un_b p
  have nb := ns_b (un p + sg (s - un p % 18446744073709551616))
  have un4 := un_ns (un p + sg (s - un p % 18446744073709551616))
  generalize sg (s - un p % 18446744073709551616) = d at *
  generalize un p = V at *
  have near : ns (V + d) - p ≤ 2147483648000000001 ∧ p - ns (V + d) ≤ 2147483648000000001 := by
    generalize ns (V + d) = N at *
    omega
  simp only
  by_cases hr : ns (V + d) < -8000000000000000000 ∨ ns (V + d) > 8000000000000000000
  · rw [if_pos hr]; exact .inl ⟨rfl, by omega⟩
  · rw [if_neg hr]
    refine .inr ⟨_, rfl, by omega, by omega, near.1, near.2, ?_⟩
    generalize ns (V + d) = N at *
    generalize un N = Z at *
    have : sg (Z % 18446744073709551616 - s) = Z - (V + d) := by unfold sg; omega
    omega

end Go.Proofs.Ytcnckfhibmlioaa.StFa
