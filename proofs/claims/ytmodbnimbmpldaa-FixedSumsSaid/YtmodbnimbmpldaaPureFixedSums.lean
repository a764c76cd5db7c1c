/- For all ints: Add, Sub, Mul and Abs of the program equal those of the reference. -/
import Derived.Test.YtmodbnimbmpldaaFxMore
namespace Go.Proofs.Ytmodbnimbmpldaa.Pure
open Go Go.RowKit Go.Proofs.Ytmodbnimbmpldaa.PFx Go.Proofs.Ytmodbnimbmpldaa.Fx Go.Proofs.Ytmodbnimbmpldaa.Math Go.Proofs.YtmodbnimbmpldaaW.PrintWords Go.Proofs.YtmodbnimbmpldaaW.PrintLast
set_option linter.unusedVariables false
set_option linter.unusedSimpArgs false

theorem FixedSums : timesynclaw01_FixedSums.Pure := by
  intro a b ha hb
  obtain ⟨a0, a1⟩ := wf64 ha
  obtain ⟨b0, b1⟩ := wf64 hb
  refine ⟨200 + 1, ?_⟩
  have hk : (132 : Nat) ≤ 200 := by omega
  generalize (200 : Nat) = k at *
  unfold timesynclaw01_FixedSums.f
  rw [add_f a b a0 a1 b0 b1, radd_f a b a0 a1 b0 b1, sub_f a b a0 a1 b0 b1, rsub_f a b a0 a1 b0 b1]
  simp only [Option.bind_some, if_true, bne_self_eq_false, Bool.false_eq_true, if_false]
  simp only [timesynclaw01_FixedSums.j0, Bool.false_eq_true, if_false]
  rw [mul_f a b a0 a1 b0 b1, rmul_f k a b a0 a1 b0 b1 (by omega), abs_f a a0 a1, rabs_f k a a0 a1 (by omega), awake_f k (by omega)]
  simp

end Go.Proofs.Ytmodbnimbmpldaa.Pure
