/- For every duration and short form: the short form and its length equal those of the reference; the short form is never too short, and too long by less than 15260 ns. -/
import Derived.Test.YtdpdpljbmncmeaaStMore
namespace Go.Proofs.Ytdpdpljbmncmeaa.Pure
open Go Go.RowKit Go.Proofs.Ytdpdpljbmncmeaa.PSt Go.Proofs.Ytdpdpljbmncmeaa.Fx Go.Proofs.Ytdpdpljbmncmeaa.Math Go.Proofs.Ytdpdpljbmncmeaa.St Go.Proofs.YtdpdpljbmncmeaaW.PrintWords Go.Proofs.YtdpdpljbmncmeaaW.PrintLast
set_option linter.unusedVariables false
set_option linter.unusedSimpArgs false

theorem lo_b (s : Int) : s * 1000000000 ≤ 65536 * lo s ∧ 65536 * lo s < s * 1000000000 + 65536 := by unfold lo; omega
theorem sh_b (n : Int) : n * 65536 ≤ 1000000000 * sh n ∧ 1000000000 * sh n < n * 65536 + 1000000000 := by unfold sh; omega
theorem StampShort : timesynclaw03_StampShort.Pure := by
  intro a s ha hs
  obtain ⟨a0, a1⟩ := wf64 ha
  obtain ⟨s0, s1⟩ := wfu32 hs
  refine ⟨100 + 2, ?_⟩
  have hk : (90 : Nat) ≤ 100 := by omega
  generalize (100 : Nat) = k at *
  unfold timesynclaw03_StampShort.f
  rw [short_f _ a a0 a1 (by omega), rshort_f a a0 a1]
  simp only [Option.bind_some, if_true]
  rw [long_f s s0 s1, rlong_f s s0 s1]
  simp only [Option.bind_some, bne_self_eq_false]
  have hk2 : k + 2 = (k + 1) + 1 := rfl
  rw [hk2]; simp only [timesynclaw03_StampShort.j0, Bool.false_eq_true, if_false]
  rw [awake_f (k + 1) (by omega)]
  simp only [Option.bind_some]
  unfold shS
  by_cases h : a < 0 ∨ sh a > 4294967295
  · rw [if_pos h]; simp
  · rw [if_neg h]; simp only [if_true]
    have b1 := sh_b a
    rw [long_f (sh a) (by omega) (by omega)]
    have b2 := lo_b (sh a)
    simp only [Option.bind_some]
    generalize sh a = n at *
    generalize lo n = l at *
    rw [if_pos (by omega), iw_in (l - a) (by omega) (by omega), if_pos (by omega)]

end Go.Proofs.Ytdpdpljbmncmeaa.Pure
