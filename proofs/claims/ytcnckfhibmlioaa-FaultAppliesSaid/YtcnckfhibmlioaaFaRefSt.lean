/- Facts about the reference's functions, turned to this seat by programs of this session (wip/tools/port.py, portmore.py). -/
import Derived.Test.YtcnckfhibmlioaaFaStamp
import Derived.Test.YtcnckfhibmlioaaFaRefFx
import Derived.Test.YtcnckfhibmlioaaFaP15
namespace Go.Proofs.Ytcnckfhibmlioaa.StFa
set_option linter.unusedVariables false
set_option linter.unusedSimpArgs false
open Go Go.RowKit Go.Proofs.Ytcnckfhibmlioaa.FxFa Go.Proofs.Ytcnckfhibmlioaa.PFa Go.Proofs.Ytcnckfhibmlioaa.Math Go.Proofs.YtcnckfhibmlioaaW.PrintWords Go.Proofs.YtcnckfhibmlioaaW.PrintLast Go.Proofs.YtcnckfhibmlioaaW.PrintMore
theorem split_f (t : Int) (h0 : -9223372036854775808 ≤ t) (h1 : t ≤ 9223372036854775807) : timesyncref03_split.f t = some (t / 1000000000, t % 1000000000) := by
  unfold timesyncref03_split.f
  have hq := tdiv_ab t 1000000000
  have hr := tmod_ab t 1000000000
  rw [show ab 1000000000 = 1000000000 from rfl] at hq hr
  rw [show decide ((1000000000 : Int) < 0) = false from rfl] at hq
  unfold ab at hq hr
  by_cases h : t < 0
  · simp only [h, if_true, decide_true, Bool.true_bne, Bool.not_false] at hq hr
    rw [hq, hr]
    by_cases h2 : -(-t % 1000000000) < 0
    · rw [if_pos h2, iw_in (-(-t / 1000000000)) (by omega) (by omega), iw_in _ (by omega) (by omega), iw_in _ (by omega) (by omega)]
      refine congrArg some (Prod.ext ?_ ?_) <;> simp only <;> omega
    · rw [if_neg h2, iw_in (-(-t / 1000000000)) (by omega) (by omega)]
      refine congrArg some (Prod.ext ?_ ?_) <;> simp only <;> omega
  · simp only [h, if_false, decide_false, bne_self_eq_false, Bool.false_eq_true] at hq hr
    rw [hq, hr, if_neg (by omega), iw_in _ (by omega) (by omega)]
theorem rof_f (t : Int) (h0 : -9223372036854775808 ≤ t) (h1 : t ≤ 9223372036854775807) : timesyncref03_Of.f t = some (un t % 18446744073709551616) := by
  unfold timesyncref03_Of.f
  rw [split_f t h0 h1]
  simp only [Option.bind_some]
  rw [iw_in (t % 1000000000 * 4294967296) (by omega) (by omega), Int.tdiv_eq_ediv_of_nonneg (by omega), iw_in (t % 1000000000 * 4294967296 / 1000000000) (by omega) (by omega)]
  have hu : un t = t / 1000000000 * 4294967296 + t % 1000000000 * 4294967296 / 1000000000 := by unfold un; omega
  rw [hu]
  have y0 : 0 ≤ t % 1000000000 * 4294967296 / 1000000000 ∧ t % 1000000000 * 4294967296 / 1000000000 < 4294967296 := by omega
  generalize t % 1000000000 * 4294967296 / 1000000000 = y at *
  generalize t / 1000000000 = q at *
  clear hu
  congr 1; simp only [uw]; omega
theorem rdiff_f (a b : Int) : timesyncref03_Diff.f a b = some (sg (a - b)) := by
  unfold timesyncref03_Diff.f sg; congr 1; simp only [uw, iw]; omega
theorem above_f (x : Int) (h0 : 0 ≤ x) (h1 : x ≤ 4294967295) : timesyncref03_above.f x = some (ns x) := by
  unfold timesyncref03_above.f ns
  have e : (x * 1000000000 + 4294967295) / 4294967296 = -(-(x * 1000000000) / 4294967296) := by generalize x * 1000000000 = z; omega
  rw [iw_in (x * 1000000000) (by omega) (by omega), iw_in (x * 1000000000 + 4294967295) (by omega) (by omega), Int.tdiv_eq_ediv_of_nonneg (by omega), iw_in _ (by omega) (by omega), e]
set_option maxHeartbeats 800000 in
theorem rtime_f (k : Nat) (s p : Int) (s0 : 0 ≤ s) (s1 : s ≤ 18446744073709551615) (h0 : -9223372036854775808 ≤ p) (h1 : p ≤ 9223372036854775807) (hk : 20 ≤ k) : timesyncref03_Time.f k s p = some (tm s p) := by
  obtain ⟨k, rfl⟩ : ∃ m, k = m + 2 := ⟨k - 2, by omega⟩
  unfold timesyncref03_Time.f tm
  have hk2 : k + 2 = (k + 1) + 1 := rfl
  have bad : timesyncref03_Time.j0 (k + 2) s p true = some (0, 2) := by
    rw [hk2]; simp only [timesyncref03_Time.j0, if_true]
  by_cases hp : p < -8000000000000000000 ∨ p > 8000000000000000000
  · rw [if_pos hp]
    rcases hp with hp | hp
    · rw [if_pos hp]; exact bad
    · rw [if_neg (by omega), show decide (p > 8000000000000000000) = true from decide_eq_true hp]; exact bad
  · rw [if_neg hp, if_neg (by omega), show decide (p > 8000000000000000000) = false from decide_eq_false (by omega)]
    rw [hk2]; simp only [timesyncref03_Time.j0, Bool.false_eq_true, if_false]
    rw [split_f p h0 h1, rof_f p h0 h1]
    simp only [Option.bind_some]
    rw [rdiff_f]
    simp only [Option.bind_some]
    have hd0 : -9223372036854775808 ≤ sg (s - un p % 18446744073709551616) ∧ sg (s - un p % 18446744073709551616) ≤ 9223372036854775807 := by unfold sg; omega
    generalize hd : sg (s - un p % 18446744073709551616) = d at *
    rw [iw_in (p % 1000000000 * 4294967296) (by omega) (by omega), Int.tdiv_eq_ediv_of_nonneg (by omega), iw_in (p % 1000000000 * 4294967296 / 1000000000) (by omega) (by omega), and_low32i d hd0.1 hd0.2]
    rw [iw_in (p % 1000000000 * 4294967296 / 1000000000 + d % 4294967296) (by omega) (by omega), and_low32i _ (by omega) (by omega), iw_in (p / 1000000000 + d / 4294967296) (by omega) (by omega)]
    rw [iw_in (p / 1000000000 + d / 4294967296 + (p % 1000000000 * 4294967296 / 1000000000 + d % 4294967296) / 4294967296) (by omega) (by omega)]
    have hX : un p + d = (p / 1000000000 + d / 4294967296 + (p % 1000000000 * 4294967296 / 1000000000 + d % 4294967296) / 4294967296) * 4294967296 + (p % 1000000000 * 4294967296 / 1000000000 + d % 4294967296) % 4294967296 := by unfold un; omega
    rw [hX]
    have hl0 : 0 ≤ (p % 1000000000 * 4294967296 / 1000000000 + d % 4294967296) % 4294967296 := by omega
    have hl1 : (p % 1000000000 * 4294967296 / 1000000000 + d % 4294967296) % 4294967296 ≤ 4294967295 := by omega
    have hh0 : -20000000000 ≤ p / 1000000000 + d / 4294967296 + (p % 1000000000 * 4294967296 / 1000000000 + d % 4294967296) / 4294967296 := by omega
    have hh1 : p / 1000000000 + d / 4294967296 + (p % 1000000000 * 4294967296 / 1000000000 + d % 4294967296) / 4294967296 ≤ 20000000000 := by omega
    generalize (p % 1000000000 * 4294967296 / 1000000000 + d % 4294967296) % 4294967296 = lo at *
    generalize p / 1000000000 + d / 4294967296 + (p % 1000000000 * 4294967296 / 1000000000 + d % 4294967296) / 4294967296 = hi at *
    clear hX hd hd0 bad
    have hns : ns (hi * 4294967296 + lo) = hi * 1000000000 + ns lo := ns_hi hi lo
    have hb : 0 ≤ ns lo ∧ ns lo ≤ 1000000000 := by unfold ns; omega
    rw [hns]
    have out : (hi > 8000000000 ∨ hi < -8000000000 - 1) → timesyncref03_Time.j1 (k + 1) lo hi true = some (if hi * 1000000000 + ns lo < -8000000000000000000 ∨ hi * 1000000000 + ns lo > 8000000000000000000 then (0, 3) else (hi * 1000000000 + ns lo, 0)) := by
      intro h
      have hn : 8000000000 < hi → 0 < hi * 1000000000 - 8000000000000000000 := by omega
      simp only [timesyncref03_Time.j1, if_true]
      rw [if_pos (by omega)]
    have inn : ¬ (hi > 8000000000 ∨ hi < -8000000000 - 1) → timesyncref03_Time.j1 (k + 1) lo hi false = some (if hi * 1000000000 + ns lo < -8000000000000000000 ∨ hi * 1000000000 + ns lo > 8000000000000000000 then (0, 3) else (hi * 1000000000 + ns lo, 0)) := by
      intro h
      simp only [timesyncref03_Time.j1, Bool.false_eq_true, if_false]
      rw [above_f lo hl0 hl1]
      simp only [Option.bind_some]
      rw [iw_in (hi * 1000000000) (by omega) (by omega), iw_in (hi * 1000000000 + ns lo) (by omega) (by omega)]
      by_cases t1 : hi * 1000000000 + ns lo < -8000000000000000000
      · rw [if_pos t1, if_pos (.inl t1)]
      · rw [if_neg t1]
        by_cases t2 : hi * 1000000000 + ns lo > 8000000000000000000
        · rw [if_pos t2, if_pos (.inr t2)]
        · rw [if_neg t2, if_neg (by omega)]
    by_cases c1 : hi > 8000000000
    · rw [if_pos c1]; exact out (.inl c1)
    · rw [if_neg c1]
      by_cases c2 : hi < -8000000000 - 1
      · rw [show decide (hi < -8000000000 - 1) = true from decide_eq_true c2]; exact out (.inr c2)
      · rw [show decide (hi < -8000000000 - 1) = false from decide_eq_false c2]; exact inn (by omega)
end Go.Proofs.Ytcnckfhibmlioaa.StFa
