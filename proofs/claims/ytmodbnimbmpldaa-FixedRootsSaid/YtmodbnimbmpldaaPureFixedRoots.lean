/- For every int: the square of Sqrt is at most the number, and the square of one more is greater, or no int. -/
import Derived.Test.YtmodbnimbmpldaaFxMore
namespace Go.Proofs.Ytmodbnimbmpldaa.Pure
open Go Go.RowKit Go.Proofs.Ytmodbnimbmpldaa.PFx Go.Proofs.Ytmodbnimbmpldaa.Fx Go.Proofs.Ytmodbnimbmpldaa.Math Go.Proofs.YtmodbnimbmpldaaW.PrintWords Go.Proofs.YtmodbnimbmpldaaW.PrintLast
set_option linter.unusedVariables false
set_option linter.unusedSimpArgs false

theorem FixedRoots : timesynclaw01_FixedRoots.Pure := by
  intro n hn
  obtain ⟨n0, n1⟩ := wf64 hn
  refine ⟨200 + 1, ?_⟩
  have hk : (132 : Nat) ≤ 200 := by omega
  generalize (200 : Nat) = k at *
  unfold timesynclaw01_FixedRoots.f
  by_cases h : n < 0
  · have e : fixed_Sqrt.f (k + 1) n = some (0, false) := by unfold fixed_Sqrt.f; rw [if_pos h]
    rw [e, awake_f (k + 1) (by omega)]
    simp only [Option.bind_some]
    rw [if_pos h]; rfl
  · obtain ⟨s, e, s0, s1, q1, q2⟩ := sqrt_f (k + 1) n (by omega) n1 (by omega)
    rw [e]
    simp only [Option.bind_some, if_true]
    rw [if_neg h, if_neg (by omega), show decide (s > 4294967296) = false from decide_eq_false (by omega)]
    simp only [timesynclaw01_FixedRoots.j0, Bool.false_eq_true, if_false]
    have sq := Int.mul_nonneg s0 s0
    rw [iw_in (s + 1) (by omega) (by omega), mul_f s s (by omega) (by omega) (by omega) (by omega), mul_f (s + 1) (s + 1) (by omega) (by omega) (by omega) (by omega), awake_f k (by omega), ex_in (by omega)]
    simp only [Option.bind_some, if_true]
    rw [if_pos q1]
    by_cases f : -9223372036854775808 ≤ (s + 1) * (s + 1) ∧ (s + 1) * (s + 1) ≤ 9223372036854775807
    · rw [ex_in f]; simp only [if_true]; rw [if_pos q2]
    · rw [ex_out f]; simp

end Go.Proofs.Ytmodbnimbmpldaa.Pure
