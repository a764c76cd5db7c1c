/- For every int: the timestamp and the era of the program equal those of the reference. -/
import Derived.Test.YtdpdpljbmncmeaaStMore
namespace Go.Proofs.Ytdpdpljbmncmeaa.Pure
open Go Go.RowKit Go.Proofs.Ytdpdpljbmncmeaa.PSt Go.Proofs.Ytdpdpljbmncmeaa.Fx Go.Proofs.Ytdpdpljbmncmeaa.Math Go.Proofs.Ytdpdpljbmncmeaa.St Go.Proofs.YtdpdpljbmncmeaaW.PrintWords Go.Proofs.YtdpdpljbmncmeaaW.PrintLast
set_option linter.unusedVariables false
set_option linter.unusedSimpArgs false

theorem StampOf : timesynclaw03_StampOf.Pure := by
  intro a ha
  obtain ⟨a0, a1⟩ := wf64 ha
  refine ⟨100 + 2, ?_⟩
  have hk : (90 : Nat) ≤ 100 := by omega
  generalize (100 : Nat) = k at *
  unfold timesynclaw03_StampOf.f
  rw [of_f _ a a0 a1 (by omega), rof_f a a0 a1, awake_f _ (by omega)]
  simp only [Option.bind_some, if_true]
  rw [era_f a a0 a1, rera_f a a0 a1]
  simp

end Go.Proofs.Ytdpdpljbmncmeaa.Pure
