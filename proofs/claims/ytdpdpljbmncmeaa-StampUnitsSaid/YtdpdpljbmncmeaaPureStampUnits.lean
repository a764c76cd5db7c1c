/- For all ints: units and nanoseconds equal those of the reference; nanoseconds in units, and back, are the same. -/
import Derived.Test.YtdpdpljbmncmeaaStMore
namespace Go.Proofs.Ytdpdpljbmncmeaa.Pure
open Go Go.RowKit Go.Proofs.Ytdpdpljbmncmeaa.PSt Go.Proofs.Ytdpdpljbmncmeaa.Fx Go.Proofs.Ytdpdpljbmncmeaa.Math Go.Proofs.Ytdpdpljbmncmeaa.St Go.Proofs.YtdpdpljbmncmeaaW.PrintWords Go.Proofs.YtdpdpljbmncmeaaW.PrintLast
set_option linter.unusedVariables false
set_option linter.unusedSimpArgs false

theorem StampUnits : timesynclaw03_StampUnits.Pure := by
  intro a b ha hb
  obtain ⟨a0, a1⟩ := wf64 ha
  obtain ⟨b0, b1⟩ := wf64 hb
  refine ⟨100 + 2, ?_⟩
  have hk : (90 : Nat) ≤ 100 := by omega
  generalize (100 : Nat) = k at *
  unfold timesynclaw03_StampUnits.f
  rw [units_f _ a a0 a1 (by omega), runits_f a a0 a1, nanos_f _ b b0 b1 (by omega), rnanos_f b b0 b1, awake_f _ (by omega)]
  simp only [Option.bind_some, if_true, bne_self_eq_false, Bool.false_eq_true, if_false]
  by_cases h : -9223372036854775808 ≤ un a ∧ un a ≤ 9223372036854775807
  · rw [ex_in h]; simp only [if_true]
    rw [nanos_f _ _ h.1 h.2 (by omega), ns_un]; simp
  · rw [ex_out h]; simp

end Go.Proofs.Ytdpdpljbmncmeaa.Pure
