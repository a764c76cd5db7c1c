/- For all lengths of at most 2^60 and rates of at most 500000: scaled and scaled back is the length, or at most 2 less. -/
import Derived.Test.YtmodbnimbmpldaaFxMore
namespace Go.Proofs.Ytmodbnimbmpldaa.Pure
open Go Go.RowKit Go.Proofs.Ytmodbnimbmpldaa.PFx Go.Proofs.Ytmodbnimbmpldaa.Fx Go.Proofs.Ytmodbnimbmpldaa.Math Go.Proofs.YtmodbnimbmpldaaW.PrintWords Go.Proofs.YtmodbnimbmpldaaW.PrintLast
set_option linter.unusedVariables false
set_option linter.unusedSimpArgs false

/-- The plain inequality. -/
theorem returns (n p : Int) (hn0 : -1152921504606846976 ≤ n) (hn1 : n ≤ 1152921504606846976) (hp0 : -500000 ≤ p) (hp1 : p ≤ 500000) :
    ∃ s u, fl (n * (1000000000 + p)) 1000000000 = s ∧ fl (s * 1000000000) (1000000000 + p) = u ∧ -2000000000000000000 ≤ s ∧ s ≤ 2000000000000000000 ∧ u ≤ n ∧ n - 2 ≤ u ∧ (0 ≤ n → 0 ≤ p → n ≤ s) ∧ (0 ≤ n → p ≤ 0 → s ≤ n) := by
  have hm : 0 < 1000000000 + p := by omega
  refine ⟨_, _, rfl, rfl, ?_⟩
  unfold fl
  rw [if_pos (by omega), if_pos hm]
  have e : n * (1000000000 + p) = 1000000000 * n + n * p := by rw [Int.mul_add]; omega
  have b1 : -(1152921504606846976 * 500000) ≤ n * p ∧ n * p ≤ 1152921504606846976 * 500000 := by
    have hab := mul_ab n p
    have h1 : ab n * ab p ≤ 1152921504606846976 * 500000 := Int.mul_le_mul (by unfold ab; omega) (by unfold ab; omega) (ab_nonneg p) (by omega)
    have h2 : 0 ≤ ab n * ab p := Int.mul_nonneg (ab_nonneg n) (ab_nonneg p)
    rw [hab]; split <;> omega
  have sgn1 : 0 ≤ n → 0 ≤ p → 0 ≤ n * p := Int.mul_nonneg
  have sgn2 : 0 ≤ n → p ≤ 0 → n * p ≤ 0 := fun a b => Int.mul_nonpos_of_nonneg_of_nonpos a b
  generalize hs : n * (1000000000 + p) / 1000000000 = s
  have s1 : 1000000000 * s ≤ n * (1000000000 + p) ∧ n * (1000000000 + p) < 1000000000 * s + 1000000000 := by
    have := Int.mul_ediv_add_emod (n * (1000000000 + p)) 1000000000
    rw [hs] at this
    omega
  have u1 := Int.mul_ediv_add_emod (s * 1000000000) (1000000000 + p)
  have u2 := Int.emod_nonneg (s * 1000000000) (show 1000000000 + p ≠ 0 by omega)
  have u3 := Int.emod_lt_of_pos (s * 1000000000) hm
  generalize hu : s * 1000000000 / (1000000000 + p) = u at *
  refine ⟨?_, ?_, ?_, ?_, ?_, ?_⟩
  · omega
  · omega
  · -- u <= n
    apply Int.not_lt.1; intro h
    have := Int.mul_le_mul_of_nonneg_left (show n + 1 ≤ u by omega) (Int.le_of_lt hm)
    rw [Int.mul_add, Int.mul_comm _ n] at this
    omega
  · apply Int.not_lt.1; intro h
    have := Int.mul_le_mul_of_nonneg_left (show u ≤ n - 3 by omega) (Int.le_of_lt hm)
    rw [Int.mul_sub, Int.mul_comm _ n] at this
    omega
  · intro a b; have := sgn1 a b; omega
  · intro a b; have := sgn2 a b; omega
theorem FixedReturns : timesynclaw01_FixedReturns.Pure := by
  intro a b ha hb
  obtain ⟨a0, a1⟩ := wf64 ha
  obtain ⟨b0, b1⟩ := wf64 hb
  refine ⟨200 + 1, ?_⟩
  have hk : (132 : Nat) ≤ 200 := by omega
  generalize (200 : Nat) = k at *
  have out : timesynclaw01_FixedReturns.j0 (k + 1) a b true = some true := by
    simp only [timesynclaw01_FixedReturns.j0, if_true]
    rw [scale_f k _ _ (by omega) (by omega) (by omega) (by omega) (by omega), unscale_f k _ _ (by omega) (by omega) (by omega) (by omega) (by omega), awake_f k (by omega)]
    rfl
  unfold timesynclaw01_FixedReturns.f
  by_cases c1 : a < -1152921504606846976
  · rw [if_pos c1]; exact out
  · rw [if_neg c1]
    by_cases c2 : a > 1152921504606846976
    · rw [if_pos c2]; exact out
    · rw [if_neg c2]
      by_cases c3 : b < -500000
      · rw [if_pos c3]; exact out
      · rw [if_neg c3]
        by_cases c4 : b > 500000
        · rw [show decide (b > 500000) = true from decide_eq_true c4]; exact out
        · rw [show decide (b > 500000) = false from decide_eq_false c4]
          obtain ⟨s, u, hs, hu, s0, s1, u1, u2, m1, m2⟩ := returns a b (by omega) (by omega) (by omega) (by omega)
          simp only [timesynclaw01_FixedReturns.j0, Bool.false_eq_true, if_false]
          rw [scale_f k _ _ (by omega) (by omega) (by omega) (by omega) (by omega), if_pos (by omega)]
          have hmd : md a (1000000000 + b) 1000000000 = (s, true) := by unfold md; rw [if_neg (by omega), hs, ex_in (by omega)]
          rw [hmd]; simp only [Option.bind_some]
          rw [unscale_f k _ _ (by omega) (by omega) (by omega) (by omega) (by omega), if_pos (by omega)]
          have hmu : md s 1000000000 (1000000000 + b) = (u, true) := by unfold md; rw [if_neg (by omega), hu, ex_in (by omega)]
          rw [hmu]; simp only [Option.bind_some, if_true]
          rw [awake_f k (by omega), if_neg (by omega), iw_in (a - 2) (by omega) (by omega), if_neg (by omega)]
          simp only [Option.bind_some]
          by_cases d1 : a < 0
          · rw [if_pos d1]
          · rw [if_neg d1]
            by_cases d2 : b < 0
            · rw [if_pos d2]
              by_cases d3 : b > 0
              · rw [if_pos d3]
              · rw [if_neg d3, if_pos (m2 (by omega) (by omega))]
            · rw [if_neg d2, if_pos (m1 (by omega) (by omega))]
              by_cases d3 : b > 0
              · rw [if_pos d3]
              · rw [if_neg d3, if_pos (m2 (by omega) (by omega))]

end Go.Proofs.Ytmodbnimbmpldaa.Pure
