/- For all ints a and b: Floor, Ceil and Near of the program equal those of the reference. -/
import Derived.Test.YtmodbnimbmpldaaFxMore
namespace Go.Proofs.Ytmodbnimbmpldaa.Pure
open Go Go.RowKit Go.Proofs.Ytmodbnimbmpldaa.PFx Go.Proofs.Ytmodbnimbmpldaa.Fx Go.Proofs.Ytmodbnimbmpldaa.Math Go.Proofs.YtmodbnimbmpldaaW.PrintWords Go.Proofs.YtmodbnimbmpldaaW.PrintLast
set_option linter.unusedVariables false
set_option linter.unusedSimpArgs false

theorem FixedQuotients : timesynclaw01_FixedQuotients.Pure := by
  intro a b ha hb
  obtain ⟨a0, a1⟩ := wf64 ha
  obtain ⟨b0, b1⟩ := wf64 hb
  refine ⟨200, ?_⟩
  have hk : (132 : Nat) ≤ 200 := by omega
  generalize (200 : Nat) = k at *
  unfold timesynclaw01_FixedQuotients.f
  rw [floor_f a b a0 a1 b0 b1, rfloor_f k a b a0 a1 b0 b1 (by omega), ceil_f a b a0 a1 b0 b1, rceil_f k a b a0 a1 b0 b1 (by omega), near_f a b a0 a1 b0 b1, rnear_f k a b a0 a1 b0 b1 (by omega), awake_f k (by omega)]
  simp

end Go.Proofs.Ytmodbnimbmpldaa.Pure
