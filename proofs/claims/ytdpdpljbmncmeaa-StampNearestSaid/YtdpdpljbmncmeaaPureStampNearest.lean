/- For every timestamp and pivot: what Time returns is at most half an era and a nanosecond away from the pivot, and its timestamp is the given one or at most four units later. -/
import Derived.Test.YtdpdpljbmncmeaaStMore
namespace Go.Proofs.Ytdpdpljbmncmeaa.Pure
open Go Go.RowKit Go.Proofs.Ytdpdpljbmncmeaa.PSt Go.Proofs.Ytdpdpljbmncmeaa.Fx Go.Proofs.Ytdpdpljbmncmeaa.Math Go.Proofs.Ytdpdpljbmncmeaa.St Go.Proofs.YtdpdpljbmncmeaaW.PrintWords Go.Proofs.YtdpdpljbmncmeaaW.PrintLast
set_option linter.unusedVariables false
set_option linter.unusedSimpArgs false

/-- The distance of two instants. -/
theorem apart_f (a b : Int) (a0 : -8000000000000000000 ≤ a) (a1 : a ≤ 8000000000000000000) (b0 : -8000000000000000000 ≤ b) (b1 : b ≤ 8000000000000000000) : timesynclaw03_apart.f a b = some (if a < b then b - a else a - b) := by
  unfold timesynclaw03_apart.f
  by_cases h : a < b
  · rw [if_pos h, if_pos h]; congr 1; simp only [uw]; omega
  · rw [if_neg h, if_neg h]; congr 1; simp only [uw]; omega
theorem inside_f (t : Int) : timesynclaw03_inside.f t = some (decide (-8000000000000000000 ≤ t ∧ t ≤ 8000000000000000000)) := by
  unfold timesynclaw03_inside.f
  by_cases h : t ≥ -8000000000000000000
  · rw [if_pos h]; congr 1; apply decide_eq_decide.2; omega
  · rw [if_neg h]; congr 1; symm; apply decide_eq_false; omega
theorem StampNearest : timesynclaw03_StampNearest.Pure := by
  intro s p hs hp
  obtain ⟨s0, s1⟩ := wfu64 hs
  obtain ⟨p0, p1⟩ := wf64 hp
  refine ⟨100 + 2, ?_⟩
  have hk : (90 : Nat) ≤ 100 := by omega
  generalize (100 : Nat) = k at *
  unfold timesynclaw03_StampNearest.f
  rw [time_f _ s p s0 s1 p0 p1 (by omega), inside_f, awake_f _ (by omega)]
  simp only [Option.bind_some, decide_eq_true_iff]
  by_cases hip : -8000000000000000000 ≤ p ∧ p ≤ 8000000000000000000
  · rw [if_pos hip]
    rcases tm_near s p s0 s1 hip.1 hip.2 with ⟨e, h⟩ | ⟨t, e, t0, t1, d1, d2, d3, d4⟩
    · rw [e]
      simp only
      rw [if_neg (by omega), if_pos trivial, if_pos trivial]
      by_cases c : p > 5852516351999999998
      · rw [if_pos c]
      · rw [if_neg c, if_pos (by omega)]
    · rw [e]
      simp only [if_true]
      rw [of_f _ t (by omega) (by omega) (by omega)]
      simp only [Option.bind_some]
      rw [diff_f, inside_f]
      simp only [Option.bind_some, decide_eq_true_iff]
      rw [if_pos ⟨t0, t1⟩, apart_f t p t0 t1 hip.1 hip.2]
      simp only [Option.bind_some]
      rw [if_pos (by split <;> omega), if_pos d3, if_pos d4]
  · rw [if_neg hip]
    have e : tm s p = (0, 2) := by unfold tm; rw [if_pos (by omega)]
    rw [e]; simp

end Go.Proofs.Ytdpdpljbmncmeaa.Pure
