/- For all ints: what was added is subtracted, and what was subtracted is added; a product is divided by its factor; Floor, Ceil and Near are neighbours. -/
import Derived.Test.YtmodbnimbmpldaaFxMore
namespace Go.Proofs.Ytmodbnimbmpldaa.Pure
open Go Go.RowKit Go.Proofs.Ytmodbnimbmpldaa.PFx Go.Proofs.Ytmodbnimbmpldaa.Fx Go.Proofs.Ytmodbnimbmpldaa.Math Go.Proofs.YtmodbnimbmpldaaW.PrintWords Go.Proofs.YtmodbnimbmpldaaW.PrintLast
set_option linter.unusedVariables false
set_option linter.unusedSimpArgs false

theorem fl_mul (a b : Int) (hb : b ≠ 0) : fl (a * b) b = a := by
  unfold fl
  by_cases h : 0 < b
  · rw [if_pos h, Int.mul_ediv_cancel _ hb]
  · rw [if_neg h, ← Int.mul_neg, Int.mul_ediv_cancel _ (by omega)]
theorem j4_f (k : Nat) (a b : Int) (a0 : -9223372036854775808 ≤ a) (a1 : a ≤ 9223372036854775807) (b0 : -9223372036854775808 ≤ b) (b1 : b ≤ 9223372036854775807) (hb : b ≠ 0) (hk : 132 ≤ k) :
    timesynclaw01_FixedBack.j3 (k + 2) a b = some true := by
  have hk2 : k + 2 = (k + 1) + 1 := rfl
  rw [hk2]; simp only [timesynclaw01_FixedBack.j3]
  rw [floor_f a b a0 a1 b0 b1, ceil_f a b a0 a1 b0 b1, near_f a b a0 a1 b0 b1]
  simp only [Option.bind_some]
  by_cases hd : a = -9223372036854775808 ∧ b = -1
  · obtain ⟨rfl, rfl⟩ := hd
    rw [md_bad (-1)]
    simp only [Bool.false_eq_true, if_false, timesynclaw01_FixedBack.j4, if_true]
    rw [awake_f k (by omega)]; rfl
  · obtain ⟨f0, f1, fm, f2⟩ := md_ok a b a0 a1 b0 b1 hb hd
    have hc : ce a b = (if Int.tmod a b = 0 then (fl (a * 1) b, true) else (fl (a * 1) b + 1, true)) := by unfold ce; rw [if_neg hb, if_neg hd]
    obtain ⟨r0, r1, r2⟩ := rs_b a b a0 a1 b0 b1 hb hd
    have hn : nr a b = (fl (a * 1) b, true) ∨ (nr a b = (fl (a * 1) b + 1, true) ∧ Int.tmod a b ≠ 0) := by
      unfold nr; rw [if_neg hb, if_neg hd]
      have := ab_pos hb
      by_cases h1 : rs a b > ab b - rs a b
      · rw [if_pos h1]; exact .inr ⟨rfl, r2 (by omega)⟩
      · rw [if_neg h1]
        by_cases h2 : rs a b = ab b - rs a b
        · rw [if_pos h2]; split
          · exact .inl rfl
          · exact .inr ⟨rfl, r2 (by omega)⟩
        · rw [if_neg h2]; exact .inl rfl
    rw [fm, hc]
    have aw := awake_f k (by omega)
    generalize fl (a * 1) b = q at *
    by_cases ht : Int.tmod a b = 0
    · rw [if_pos ht]
      rcases hn with hn | ⟨_, hn⟩
      · rw [hn]
        simp only [if_true, Bool.not_true, timesynclaw01_FixedBack.j4, Bool.false_eq_true, if_false]
        rw [if_pos (by omega), iw_in _ (by omega) (by omega), if_pos (by omega), aw]; rfl
      · exact absurd ht hn
    · rw [if_neg ht]
      have := f2 ht
      rcases hn with hn | ⟨hn, _⟩
      · rw [hn]
        simp only [if_true, Bool.not_true, timesynclaw01_FixedBack.j4, Bool.false_eq_true, if_false]
        rw [if_pos (by omega), iw_in _ (by omega) (by omega), if_pos (by omega), aw]; rfl
      · rw [hn]
        simp only [if_true, Bool.not_true, timesynclaw01_FixedBack.j4, Bool.false_eq_true, if_false]
        rw [if_pos (by omega), iw_in _ (by omega) (by omega), if_pos (by omega), if_neg (by omega), aw]; rfl
theorem j1_f (k : Nat) (a b : Int) (a0 : -9223372036854775808 ≤ a) (a1 : a ≤ 9223372036854775807) (b0 : -9223372036854775808 ≤ b) (b1 : b ≤ 9223372036854775807) (hk : 132 ≤ k) :
    timesynclaw01_FixedBack.j1 (k + 4) a b = some true := by
  have hk2 : k + 4 = (k + 3) + 1 := rfl
  rw [hk2]; simp only [timesynclaw01_FixedBack.j1]
  by_cases hb : b = 0
  · rw [if_pos hb, awake_f (k + 3) (by omega)]; rfl
  · rw [if_neg hb, muldiv_f (k + 3) a b b a0 a1 b0 b1 b0 b1 (by omega)]
    have e : md a b b = (a, true) := by unfold md; rw [if_neg hb, fl_mul a b hb, ex_in ⟨a0, a1⟩]
    rw [e]
    simp only [Option.bind_some, if_true, bne_self_eq_false]
    have hk3 : k + 3 = (k + 2) + 1 := rfl
    rw [hk3]; simp only [timesynclaw01_FixedBack.j2, Bool.false_eq_true, if_false]
    rw [mul_f a b a0 a1 b0 b1, j4_f k a b a0 a1 b0 b1 hb hk]
    simp only [Option.bind_some]
    by_cases f : -9223372036854775808 ≤ a * b ∧ a * b ≤ 9223372036854775807
    · rw [ex_in f]; simp only [if_true]
      rw [floor_f (a * b) b f.1 f.2 b0 b1]
      have e2 : md (a * b) 1 b = (a, true) := by unfold md; rw [if_neg hb, Int.mul_one, fl_mul a b hb, ex_in ⟨a0, a1⟩]
      rw [e2]; simp only [Option.bind_some, if_true]
    · rw [ex_out f]; simp only [Bool.false_eq_true, if_false]
theorem FixedBack : timesynclaw01_FixedBack.Pure := by
  intro a b ha hb
  obtain ⟨a0, a1⟩ := wf64 ha
  obtain ⟨b0, b1⟩ := wf64 hb
  refine ⟨200 + 5, ?_⟩
  have hk : (132 : Nat) ≤ 200 := by omega
  generalize (200 : Nat) = k at *
  have g : timesynclaw01_FixedBack.j0 (k + 5) a b = some true := by
    have hk2 : k + 5 = (k + 4) + 1 := rfl
    rw [hk2]; simp only [timesynclaw01_FixedBack.j0]
    rw [sub_f a b a0 a1 b0 b1, j1_f k a b a0 a1 b0 b1 hk]
    simp only [Option.bind_some]
    by_cases f : -9223372036854775808 ≤ a - b ∧ a - b ≤ 9223372036854775807
    · rw [ex_in f]; simp only [if_true]
      rw [add_f (a - b) b f.1 f.2 b0 b1, show a - b + b = a by omega, ex_in ⟨a0, a1⟩]
      simp only [Option.bind_some, if_true]
    · rw [ex_out f]; simp only [Bool.false_eq_true, if_false]
  unfold timesynclaw01_FixedBack.f
  rw [add_f a b a0 a1 b0 b1, g]
  simp only [Option.bind_some]
  by_cases f : -9223372036854775808 ≤ a + b ∧ a + b ≤ 9223372036854775807
  · rw [ex_in f]; simp only [if_true]
    rw [sub_f (a + b) b f.1 f.2 b0 b1, show a + b - b = a by omega, ex_in ⟨a0, a1⟩]
    simp only [Option.bind_some, if_true]
  · rw [ex_out f]; simp only [Bool.false_eq_true, if_false]

end Go.Proofs.Ytmodbnimbmpldaa.Pure
