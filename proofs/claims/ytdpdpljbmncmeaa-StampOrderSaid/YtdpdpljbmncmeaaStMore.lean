/- The layer 'stamp': the wake-up examples, and the plain inequalities behind its laws. -/
import Derived.Test.YtdpdpljbmncmeaaStText
namespace Go.Proofs.Ytdpdpljbmncmeaa.St
set_option linter.unusedVariables false
set_option linter.unusedSimpArgs false
open Go Go.RowKit Go.Proofs.Ytdpdpljbmncmeaa.PSt Go.Proofs.Ytdpdpljbmncmeaa.Math Go.Proofs.Ytdpdpljbmncmeaa.Fx Go.Proofs.YtdpdpljbmncmeaaW.PrintWords Go.Proofs.YtdpdpljbmncmeaaW.PrintLast Go.Proofs.YtdpdpljbmncmeaaW.PrintMore

theorem awake_f (k : Nat) (hk : 60 ≤ k) : timesynclaw03_awake.f k = some true := by
  obtain ⟨k, rfl⟩ : ∃ m, k = m + 1 := ⟨k - 1, by omega⟩
  have t1 : tm 6442450944 0 = (1500000000, 0) := by decide +kernel
  have t2 : tm 6442450944 4294967296000000000 = (4294967297500000000, 0) := by decide +kernel
  have t3 : un 1500000000 % 18446744073709551616 = 6442450944 := by decide +kernel
  have t4 : un (-1) % 18446744073709551616 = 18446744073709551611 := by decide +kernel
  have t5 : ex (un 1500000000) = (6442450944, true) := by decide +kernel
  have t6 : shS 1000000000 = (65536, 0) := by decide +kernel
  have t7 : (⟨#[48, 48, 48, 48, 48, 48, 48, 49, 46, 56, 48, 48, 48, 48, 48, 48, 48]⟩ : ByteArray) = tx 6442450944 := by decide +kernel
  have t8 : (tx 6442450944).toList = [48, 48, 48, 48, 48, 48, 48, 49, 46, 56, 48, 48, 48, 48, 48, 48, 48] := by rw [Lib.toList_data, ← t7]
  have t9 : ns 1 = 1 := by decide +kernel
  have t10 : ns (-1) = 0 := by decide +kernel
  have j : timesynclaw03_awake.j0 (k + 1) false = some true := by
    simp only [timesynclaw03_awake.j0, Bool.false_eq_true, if_false]
    rw [units_f k _ (by omega) (by omega) (by omega), short_f k _ (by omega) (by omega) (by omega), t7, parse_f k _ (by omega), pa_tx _ (by omega) (by omega), t5, t6,
      nanos_f k 1 (by omega) (by omega) (by omega), nanos_f k (-1) (by omega) (by omega) (by omega), t9, t10, long_f 1 (by omega) (by omega), diff_f, text_f k _ (by omega) (by omega) (by omega)]
    simp only [Option.bind_some]
    rw [t8]
    rfl
  unfold timesynclaw03_awake.f
  rw [time_f _ _ _ (by omega) (by omega) (by omega) (by omega) (by omega), time_f _ _ _ (by omega) (by omega) (by omega) (by omega) (by omega), t1, t2, of_f _ _ (by omega) (by omega) (by omega), t3]
  simp only [Option.bind_some, if_true]
  rw [of_f _ _ (by omega) (by omega) (by omega), t4]
  simp only [Option.bind_some, if_true]
  rw [era_f _ (by omega) (by omega)]
  simp only [Option.bind_some]
  rw [if_pos (by omega), era_f _ (by omega) (by omega)]
  simp only [Option.bind_some]
  rw [if_pos (by omega)]
  simp only [bne_self_eq_false]
  exact j

theorem un_b (t : Int) : 1000000000 * un t ≤ t * 4294967296 ∧ t * 4294967296 < 1000000000 * un t + 1000000000 := by unfold un; omega
theorem ns_b (u : Int) : u * 1000000000 ≤ 4294967296 * ns u ∧ 4294967296 * ns u < u * 1000000000 + 4294967296 := by unfold ns; omega
theorem ns_un (t : Int) : ns (un t) = t := by
  have a := un_b t
  have b := ns_b (un t)
  generalize un t = U at *
  generalize ns U = N at *
  omega
theorem un_ns (x : Int) : x ≤ un (ns x) ∧ un (ns x) ≤ x + 4 := by
  have a := ns_b x
  have b := un_b (ns x)
  generalize ns x = N at *
  generalize un N = U at *
  omega
theorem sg_in (d : Int) (h0 : -9223372036854775808 ≤ d) (h1 : d ≤ 9223372036854775807) : sg d = d := by unfold sg; omega
theorem sg_mod (a b : Int) (h0 : -9223372036854775808 ≤ a - b) (h1 : a - b ≤ 9223372036854775807) : sg (a % 18446744073709551616 - b % 18446744073709551616) = a - b := by unfold sg; omega
theorem un_near (t p : Int) (h : t - p < 2147483648000000000) (h2 : p - t < 2147483648000000000) : -9223372036854775808 ≤ un t - un p ∧ un t - un p ≤ 9223372036854775807 := by
  have a := un_b t; have b := un_b p
  generalize un t = U at *; generalize un p = V at *
  omega
/-- A timestamp is read back. -/
theorem tm_back (t p : Int) (ht0 : -8000000000000000000 ≤ t) (ht1 : t ≤ 8000000000000000000) (hp0 : -8000000000000000000 ≤ p) (hp1 : p ≤ 8000000000000000000) (h : t - p < 2147483648000000000) (h2 : p - t < 2147483648000000000) : tm (un t % 18446744073709551616) p = (t, 0) := by
  obtain ⟨n0, n1⟩ := un_near t p h h2
  unfold tm
  rw [if_neg (by omega), sg_mod _ _ n0 n1, show un p + (un t - un p) = un t by omega, ns_un]
  simp only
  rw [if_neg (by omega)]
theorem un_mono (a b : Int) (h : a ≤ b) : un a ≤ un b := by
  have x := un_b a; have y := un_b b
  generalize un a = U at *; generalize un b = V at *
  omega
/-- What Time gives is near the pivot, and near the timestamp. -/
theorem tm_near (s p : Int) (s0 : 0 ≤ s) (s1 : s ≤ 18446744073709551615) (hp0 : -8000000000000000000 ≤ p) (hp1 : p ≤ 8000000000000000000) :
    (tm s p = (0, 3) ∧ (p > 5852516351999999998 ∨ p < -5852516351999999998)) ∨ (∃ t, tm s p = (t, 0) ∧ -8000000000000000000 ≤ t ∧ t ≤ 8000000000000000000 ∧ t - p ≤ 2147483648000000001 ∧ p - t ≤ 2147483648000000001 ∧ 0 ≤ sg (un t % 18446744073709551616 - s) ∧ sg (un t % 18446744073709551616 - s) ≤ 4) := by
  unfold tm
  rw [if_neg (by omega)]
  have hd0 : -9223372036854775808 ≤ sg (s - un p % 18446744073709551616) ∧ sg (s - un p % 18446744073709551616) ≤ 9223372036854775807 := by unfold sg; omega
  have hx : ∃ c, un p + sg (s - un p % 18446744073709551616) = s + 18446744073709551616 * c := by
    unfold sg
    refine ⟨un p / 18446744073709551616 - (s - un p % 18446744073709551616 + 9223372036854775808) / 18446744073709551616, ?_⟩
    omega
  obtain ⟨c, hx⟩ := hx
  have ub := un_b p
  have nb := ns_b (un p + sg (s - un p % 18446744073709551616))
  have un4 := un_ns (un p + sg (s - un p % 18446744073709551616))
  generalize sg (s - un p % 18446744073709551616) = d at *
  generalize un p = V at *
  have near : ns (V + d) - p ≤ 2147483648000000001 ∧ p - ns (V + d) ≤ 2147483648000000001 := by
    generalize ns (V + d) = N at *
    omega
  simp only
  by_cases hr : ns (V + d) < -8000000000000000000 ∨ ns (V + d) > 8000000000000000000
  · rw [if_pos hr]; exact .inl ⟨rfl, by omega⟩
  · rw [if_neg hr]
    refine .inr ⟨_, rfl, by omega, by omega, near.1, near.2, ?_⟩
    generalize ns (V + d) = N at *
    generalize un N = Z at *
    have : sg (Z % 18446744073709551616 - s) = Z - (V + d) := by unfold sg; omega
    omega
end Go.Proofs.Ytdpdpljbmncmeaa.St
