/- For all ints: Scale, Unscale and Clamp of the program equal those of the reference. -/
import Derived.Test.YtmodbnimbmpldaaFxMore
namespace Go.Proofs.Ytmodbnimbmpldaa.Pure
open Go Go.RowKit Go.Proofs.Ytmodbnimbmpldaa.PFx Go.Proofs.Ytmodbnimbmpldaa.Fx Go.Proofs.Ytmodbnimbmpldaa.Math Go.Proofs.YtmodbnimbmpldaaW.PrintWords Go.Proofs.YtmodbnimbmpldaaW.PrintLast
set_option linter.unusedVariables false
set_option linter.unusedSimpArgs false

theorem FixedScales : timesynclaw01_FixedScales.Pure := by
  intro a b c ha hb hc
  obtain ⟨a0, a1⟩ := wf64 ha
  obtain ⟨b0, b1⟩ := wf64 hb
  obtain ⟨c0, c1⟩ := wf64 hc
  refine ⟨200, ?_⟩
  have hk : (132 : Nat) ≤ 200 := by omega
  generalize (200 : Nat) = k at *
  unfold timesynclaw01_FixedScales.f
  rw [scale_f k a b a0 a1 b0 b1 (by omega), rscale_f k a b a0 a1 b0 b1 (by omega), unscale_f k a b a0 a1 b0 b1 (by omega), runscale_f k a b a0 a1 b0 b1 (by omega), awake_f k (by omega)]
  have hcl : ∃ z, fixed_Clamp.f a b c = some z ∧ timesyncref01_Clamp.f a b c = some z := by
    unfold fixed_Clamp.f timesyncref01_Clamp.f
    by_cases h : a < b
    · exact ⟨b, by rw [if_pos h], by rw [if_pos h]⟩
    · by_cases h2 : a > c
      · exact ⟨c, by rw [if_neg h, if_pos h2], by rw [if_neg h, if_pos h2]⟩
      · exact ⟨a, by rw [if_neg h, if_neg h2], by rw [if_neg h, if_neg h2]⟩
  obtain ⟨z, h1, h2⟩ := hcl
  rw [h1, h2]
  simp

end Go.Proofs.Ytmodbnimbmpldaa.Pure
