/- For all timestamps: differences are those of the reference; exchanged they are opposite, unless they are half an era; and they add up, as long as the sum is less than half an era. -/
import Derived.Test.YtdpdpljbmncmeaaStMore
namespace Go.Proofs.Ytdpdpljbmncmeaa.Pure
open Go Go.RowKit Go.Proofs.Ytdpdpljbmncmeaa.PSt Go.Proofs.Ytdpdpljbmncmeaa.Fx Go.Proofs.Ytdpdpljbmncmeaa.Math Go.Proofs.Ytdpdpljbmncmeaa.St Go.Proofs.YtdpdpljbmncmeaaW.PrintWords Go.Proofs.YtdpdpljbmncmeaaW.PrintLast
set_option linter.unusedVariables false
set_option linter.unusedSimpArgs false

theorem StampDiffers : timesynclaw03_StampDiffers.Pure := by
  intro a b c ha hb hc
  obtain ⟨a0, a1⟩ := wfu64 ha
  obtain ⟨b0, b1⟩ := wfu64 hb
  obtain ⟨c0, c1⟩ := wfu64 hc
  refine ⟨100 + 2, ?_⟩
  have hk : (90 : Nat) ≤ 100 := by omega
  generalize (100 : Nat) = k at *
  unfold timesynclaw03_StampDiffers.f
  rw [diff_f, diff_f, diff_f, rdiff_f, diff_f, diff_f]
  simp only [Option.bind_some, if_true]
  have z : sg (a - a) = 0 := by unfold sg; omega
  rw [z]; simp only [if_true]
  have j : timesynclaw03_StampDiffers.j0 (k + 2) (sg (a - b)) (sg (b - c)) (sg (a - c)) false = some true := by
    have hk2 : k + 2 = (k + 1) + 1 := rfl
    rw [hk2]; simp only [timesynclaw03_StampDiffers.j0, Bool.false_eq_true, if_false]
    rw [awake_f (k + 1) (by omega)]
    simp only [Option.bind_some]
    by_cases h1 : sg (a - b) > -2305843009213693952
    · rw [if_pos h1]
      by_cases h2 : sg (a - b) < 2305843009213693952
      · rw [if_pos h2]
        by_cases h3 : sg (b - c) > -2305843009213693952
        · rw [if_pos h3]
          by_cases h4 : sg (b - c) < 2305843009213693952
          · rw [if_pos h4, iw_in _ (by omega) (by omega), if_pos (by unfold sg at *; omega)]
          · rw [if_neg h4]
        · rw [if_neg h3]
      · rw [if_neg h2]
    · rw [if_neg h1]
  by_cases h : sg (a - b) = -9223372036854775808
  · rw [if_pos h]; rw [h] at j; rw [h]; exact j
  · rw [if_neg h]
    have e : sg (b - a) = wrap64 (-(sg (a - b))) := by rw [iw]; unfold sg at *; omega
    rw [e, bne_self_eq_false]; exact j

end Go.Proofs.Ytdpdpljbmncmeaa.Pure
