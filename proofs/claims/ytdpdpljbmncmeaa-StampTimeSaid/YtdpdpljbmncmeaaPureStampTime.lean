/- For every timestamp and pivot: the instant, or the error, of the program equals that of the reference. -/
import Derived.Test.YtdpdpljbmncmeaaStMore
namespace Go.Proofs.Ytdpdpljbmncmeaa.Pure
open Go Go.RowKit Go.Proofs.Ytdpdpljbmncmeaa.PSt Go.Proofs.Ytdpdpljbmncmeaa.Fx Go.Proofs.Ytdpdpljbmncmeaa.Math Go.Proofs.Ytdpdpljbmncmeaa.St Go.Proofs.YtdpdpljbmncmeaaW.PrintWords Go.Proofs.YtdpdpljbmncmeaaW.PrintLast
set_option linter.unusedVariables false
set_option linter.unusedSimpArgs false

theorem StampTime : timesynclaw03_StampTime.Pure := by
  intro s p hs hp
  obtain ⟨s0, s1⟩ := wfu64 hs
  obtain ⟨p0, p1⟩ := wf64 hp
  refine ⟨100 + 2, ?_⟩
  have hk : (90 : Nat) ≤ 100 := by omega
  generalize (100 : Nat) = k at *
  unfold timesynclaw03_StampTime.f
  rw [time_f _ s p s0 s1 p0 p1 (by omega), rtime_f _ s p s0 s1 p0 p1 (by omega), awake_f _ (by omega)]
  simp

end Go.Proofs.Ytdpdpljbmncmeaa.Pure
