/- For all instants: of two that are less than half an era apart the later one has a timestamp that is not earlier, and an era that is not lower. -/
import Derived.Test.YtdpdpljbmncmeaaStMore
namespace Go.Proofs.Ytdpdpljbmncmeaa.Pure
open Go Go.RowKit Go.Proofs.Ytdpdpljbmncmeaa.PSt Go.Proofs.Ytdpdpljbmncmeaa.Fx Go.Proofs.Ytdpdpljbmncmeaa.Math Go.Proofs.Ytdpdpljbmncmeaa.St Go.Proofs.YtdpdpljbmncmeaaW.PrintWords Go.Proofs.YtdpdpljbmncmeaaW.PrintLast
set_option linter.unusedVariables false
set_option linter.unusedSimpArgs false

/-- The distance of two instants. -/
theorem apart_f (a b : Int) (a0 : -8000000000000000000 ≤ a) (a1 : a ≤ 8000000000000000000) (b0 : -8000000000000000000 ≤ b) (b1 : b ≤ 8000000000000000000) : timesynclaw03_apart.f a b = some (if a < b then b - a else a - b) := by
  unfold timesynclaw03_apart.f
  by_cases h : a < b
  · rw [if_pos h, if_pos h]; congr 1; simp only [uw]; omega
  · rw [if_neg h, if_neg h]; congr 1; simp only [uw]; omega
theorem inside_f (t : Int) : timesynclaw03_inside.f t = some (decide (-8000000000000000000 ≤ t ∧ t ≤ 8000000000000000000)) := by
  unfold timesynclaw03_inside.f
  by_cases h : t ≥ -8000000000000000000
  · rw [if_pos h]; congr 1; apply decide_eq_decide.2; omega
  · rw [if_neg h]; congr 1; symm; apply decide_eq_false; omega
theorem order_j1 (k : Nat) (a b : Int) (hk : 90 ≤ k) (a0 : -8000000000000000000 ≤ a) (b1 : b ≤ 8000000000000000000) (h : a ≤ b) (hd : b - a < 2147483648000000000) : timesynclaw03_StampOrder.j1 (k + 1) a b = some true := by
  simp only [timesynclaw03_StampOrder.j1]
  rw [of_f k b (by omega) (by omega) (by omega), of_f k a (by omega) (by omega) (by omega)]
  simp only [Option.bind_some]
  obtain ⟨n0, n1⟩ := un_near b a hd (by omega)
  have m := un_mono a b h
  rw [diff_f, sg_mod _ _ n0 n1, era_f b (by omega) (by omega), era_f a (by omega) (by omega), awake_f k (by omega)]
  simp only [Option.bind_some]
  rw [if_pos (by omega), if_pos (by omega), iw_in _ (by omega) (by omega), if_pos (by omega)]
theorem StampOrder : timesynclaw03_StampOrder.Pure := by
  intro a b ha hb
  obtain ⟨a0, a1⟩ := wf64 ha
  obtain ⟨b0, b1⟩ := wf64 hb
  refine ⟨100 + 2, ?_⟩
  have hk : (90 : Nat) ≤ 100 := by omega
  generalize (100 : Nat) = k at *
  unfold timesynclaw03_StampOrder.f
  rw [inside_f, inside_f]
  simp only [Option.bind_some, decide_eq_true_iff]
  have hk2 : k + 2 = (k + 1) + 1 := rfl
  have far : timesynclaw03_StampOrder.j0 (k + 2) a b true = some true := by
    rw [hk2]; simp only [timesynclaw03_StampOrder.j0, if_true]
    rw [awake_f (k + 1) (by omega)]; rfl
  by_cases hia : -8000000000000000000 ≤ a ∧ a ≤ 8000000000000000000
  · rw [if_pos hia]
    by_cases hib : -8000000000000000000 ≤ b ∧ b ≤ 8000000000000000000
    · rw [if_pos hib, apart_f a b hia.1 hia.2 hib.1 hib.2]
      simp only [Option.bind_some]
      by_cases hd : (if a < b then b - a else a - b) ≥ 2147483648000000000
      · rw [decide_eq_true hd]; exact far
      · rw [decide_eq_false hd]
        have hd' : a - b < 2147483648000000000 ∧ b - a < 2147483648000000000 := by split at hd <;> omega
        rw [hk2]; simp only [timesynclaw03_StampOrder.j0, Bool.false_eq_true, if_false]
        by_cases hg : a > b
        · rw [if_pos hg]; exact order_j1 k b a hk hib.1 hia.2 (by omega) hd'.1
        · rw [if_neg hg]; exact order_j1 k a b hk hia.1 hib.2 (by omega) hd'.2
    · rw [if_neg hib]; exact far
  · rw [if_neg hia]; exact far

end Go.Proofs.Ytdpdpljbmncmeaa.Pure
