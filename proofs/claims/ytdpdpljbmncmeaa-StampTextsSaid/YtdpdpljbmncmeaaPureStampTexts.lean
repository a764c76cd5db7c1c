/- For every timestamp and every string: texts, and what is read, equal those of the reference; a text is read back as its timestamp, and what is read has just that text. -/
import Derived.Test.YtdpdpljbmncmeaaStMore
namespace Go.Proofs.Ytdpdpljbmncmeaa.Pure
open Go Go.RowKit Go.Proofs.Ytdpdpljbmncmeaa.PSt Go.Proofs.Ytdpdpljbmncmeaa.Fx Go.Proofs.Ytdpdpljbmncmeaa.Math Go.Proofs.Ytdpdpljbmncmeaa.St Go.Proofs.YtdpdpljbmncmeaaW.PrintWords Go.Proofs.YtdpdpljbmncmeaaW.PrintLast
set_option linter.unusedVariables false
set_option linter.unusedSimpArgs false

theorem StampTexts : timesynclaw03_StampTexts.Pure := by
  intro n s hn hs
  obtain ⟨n0, n1⟩ := wfu64 hn
  refine ⟨100 + 2, ?_⟩
  have hk : (90 : Nat) ≤ 100 := by omega
  generalize (100 : Nat) = k at *
  unfold timesynclaw03_StampTexts.f
  rw [parse_f _ s (by omega), rparse_f _ s (by omega), text_f _ n n0 n1 (by omega), rtext_f _ n n0 n1 (by omega), awake_f _ (by omega)]
  simp only [Option.bind_some]
  rw [parse_f _ _ (by omega), pa_tx n n0 n1]
  simp only [Option.bind_some, if_true]
  by_cases h : (pa s).2 = 0
  · obtain ⟨v0, v1, e⟩ := pa_back s h
    rw [if_pos h, text_f _ _ v0 v1 (by omega)]
    simp only [Option.bind_some]
    rw [if_pos e]
  · rw [if_neg h]

end Go.Proofs.Ytdpdpljbmncmeaa.Pure
