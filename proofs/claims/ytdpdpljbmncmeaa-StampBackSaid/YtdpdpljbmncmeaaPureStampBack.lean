/- For all instants: a timestamp is read back with any pivot that is less than half an era away, and with the instant itself. -/
import Derived.Test.YtdpdpljbmncmeaaStMore
namespace Go.Proofs.Ytdpdpljbmncmeaa.Pure
open Go Go.RowKit Go.Proofs.Ytdpdpljbmncmeaa.PSt Go.Proofs.Ytdpdpljbmncmeaa.Fx Go.Proofs.Ytdpdpljbmncmeaa.Math Go.Proofs.Ytdpdpljbmncmeaa.St Go.Proofs.YtdpdpljbmncmeaaW.PrintWords Go.Proofs.YtdpdpljbmncmeaaW.PrintLast
set_option linter.unusedVariables false
set_option linter.unusedSimpArgs false

/-- The distance of two instants. -/
theorem apart_f (a b : Int) (a0 : -8000000000000000000 ≤ a) (a1 : a ≤ 8000000000000000000) (b0 : -8000000000000000000 ≤ b) (b1 : b ≤ 8000000000000000000) : timesynclaw03_apart.f a b = some (if a < b then b - a else a - b) := by
  unfold timesynclaw03_apart.f
  by_cases h : a < b
  · rw [if_pos h, if_pos h]; congr 1; simp only [uw]; omega
  · rw [if_neg h, if_neg h]; congr 1; simp only [uw]; omega
theorem inside_f (t : Int) : timesynclaw03_inside.f t = some (decide (-8000000000000000000 ≤ t ∧ t ≤ 8000000000000000000)) := by
  unfold timesynclaw03_inside.f
  by_cases h : t ≥ -8000000000000000000
  · rw [if_pos h]; congr 1; apply decide_eq_decide.2; omega
  · rw [if_neg h]; congr 1; symm; apply decide_eq_false; omega
theorem StampBack : timesynclaw03_StampBack.Pure := by
  intro t p ht hp
  obtain ⟨t0, t1⟩ := wf64 ht
  obtain ⟨p0, p1⟩ := wf64 hp
  refine ⟨100 + 2, ?_⟩
  have hk : (90 : Nat) ≤ 100 := by omega
  generalize (100 : Nat) = k at *
  unfold timesynclaw03_StampBack.f
  rw [inside_f, awake_f _ (by omega)]
  simp only [Option.bind_some, decide_eq_true_iff]
  by_cases hin : -8000000000000000000 ≤ t ∧ t ≤ 8000000000000000000
  · rw [if_pos hin, of_f _ t t0 t1 (by omega)]
    simp only [Option.bind_some]
    have w0 : 0 ≤ un t % 18446744073709551616 := by omega
    have w1 : un t % 18446744073709551616 ≤ 18446744073709551615 := by omega
    rw [time_f _ _ t w0 w1 t0 t1 (by omega), tm_back t t hin.1 hin.2 hin.1 hin.2 (by omega) (by omega)]
    simp only [Option.bind_some, if_true, bne_self_eq_false]
    have hk2 : k + 2 = (k + 1) + 1 := rfl
    rw [hk2]; simp only [timesynclaw03_StampBack.j0, Bool.false_eq_true, if_false]
    rw [inside_f]
    simp only [Option.bind_some, decide_eq_true_iff]
    have far : timesynclaw03_StampBack.j1 (k + 1) t p true = some true := by
      simp only [timesynclaw03_StampBack.j1, if_true]
      rw [awake_f k (by omega)]; rfl
    by_cases hip : -8000000000000000000 ≤ p ∧ p ≤ 8000000000000000000
    · rw [if_pos hip, apart_f t p hin.1 hin.2 hip.1 hip.2]
      simp only [Option.bind_some]
      by_cases hd : (if t < p then p - t else t - p) ≥ 2147483648000000000
      · rw [decide_eq_true hd]; exact far
      · rw [decide_eq_false hd]
        have hd' : t - p < 2147483648000000000 ∧ p - t < 2147483648000000000 := by split at hd <;> omega
        simp only [timesynclaw03_StampBack.j1, Bool.false_eq_true, if_false]
        rw [of_f _ t t0 t1 (by omega)]
        simp only [Option.bind_some]
        rw [time_f _ _ p w0 w1 p0 p1 (by omega), tm_back t p hin.1 hin.2 hip.1 hip.2 hd'.1 hd'.2, awake_f k (by omega)]
        simp
    · rw [if_neg hip]; exact far
  · rw [if_neg hin]

end Go.Proofs.Ytdpdpljbmncmeaa.Pure
