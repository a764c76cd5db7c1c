/- For all ints a, b and c: MulDiv of the program equals that of the reference. -/
import Derived.Test.YtmodbnimbmpldaaFxMore
namespace Go.Proofs.Ytmodbnimbmpldaa.Pure
open Go Go.RowKit Go.Proofs.Ytmodbnimbmpldaa.PFx Go.Proofs.Ytmodbnimbmpldaa.Fx Go.Proofs.Ytmodbnimbmpldaa.Math Go.Proofs.YtmodbnimbmpldaaW.PrintWords Go.Proofs.YtmodbnimbmpldaaW.PrintLast
set_option linter.unusedVariables false
set_option linter.unusedSimpArgs false

theorem FixedProducts : timesynclaw01_FixedProducts.Pure := by
  intro a b c ha hb hc
  obtain ⟨a0, a1⟩ := wf64 ha
  obtain ⟨b0, b1⟩ := wf64 hb
  obtain ⟨c0, c1⟩ := wf64 hc
  refine ⟨200, ?_⟩
  have hk : (132 : Nat) ≤ 200 := by omega
  generalize (200 : Nat) = k at *
  unfold timesynclaw01_FixedProducts.f
  rw [muldiv_f k a b c a0 a1 b0 b1 c0 c1 (by omega), rmuldiv_f k a b c a0 a1 b0 b1 c0 c1 (by omega), awake_f k (by omega)]
  simp

end Go.Proofs.Ytmodbnimbmpldaa.Pure
