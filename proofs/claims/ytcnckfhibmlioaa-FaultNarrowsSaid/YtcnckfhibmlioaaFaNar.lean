/- FaultNarrows without any program: narrowing by 0 leaves the middle; holds add up. -/
import Derived.Test.YtcnckfhibmlioaaFaChk0
import Derived.Test.YtcnckfhibmlioaaFaOpen
import Derived.Test.YtcnckfhibmlioaaPFax14
namespace Go.Proofs.Ytcnckfhibmlioaa.Fa
open Go Go.RowKit Go.Proofs.Ytcnckfhibmlioaa Go.Proofs.Ytcnckfhibmlioaa.PFa Go.Proofs.Ytcnckfhibmlioaa.Ob Go.Proofs.YtcnckfhibmlioaaW.PrintWords
set_option linter.unusedVariables false
set_option linter.unusedSimpArgs false
theorem toNat64 (z : Int) : (BitVec.ofInt 64 z).toNat = (z % 18446744073709551616).toNat := by rw [BitVec.toNat_ofInt]; rfl
theorem and_one (z : Int) : bits .and .i64 z 1 = z % 2 := by
  have h1 : (BitVec.ofInt 64 1).toNat = 2 ^ 1 - 1 := by decide
  have key : (BitVec.ofInt 64 z &&& BitVec.ofInt 64 1).toNat = (z % 18446744073709551616).toNat % 2 := by
    rw [BitVec.toNat_and, h1, Nat.and_two_pow_sub_one_eq_mod, toNat64]
  show IntKind.i64.wrap ((BitVec.ofInt 64 z &&& BitVec.ofInt 64 1).toNat : Nat) = z % 2
  rw [key, IntKind.wrap_i64]
  omega
theorem and_odd_nat (p q : Nat) (hp : p < 18446744073709551616) : (((p &&& q : Nat) : Int) + 9223372036854775808) % 18446744073709551616 - 9223372036854775808 = (((p &&& q : Nat) : Int) + 9223372036854775808) % 18446744073709551616 - 9223372036854775808 ∧ ((((p &&& q : Nat) : Int) + 9223372036854775808) % 18446744073709551616 - 9223372036854775808) % 2 = ((p % 2 : Nat) : Int) * ((q % 2 : Nat) : Int) := by
  refine ⟨rfl, ?_⟩
  have hm : (p &&& q) % 2 = (p % 2) &&& (q % 2) := Nat.and_mod_two_pow (n := 1)
  generalize p &&& q = r at hm ⊢
  have e1 : (((r : Int) + 9223372036854775808) % 18446744073709551616 - 9223372036854775808) % 2 = ((r % 2 : Nat) : Int) := by omega
  rw [e1, hm]
  rcases Nat.mod_two_eq_zero_or_one p with c | c <;> rcases Nat.mod_two_eq_zero_or_one q with d | d <;> rw [c, d] <;> rfl
theorem and_odd (a b : Int) : bits .and .i64 (bits .and .i64 a b) 1 = (a % 2) * (b % 2) := by
  rw [and_one]
  have key : (BitVec.ofInt 64 a &&& BitVec.ofInt 64 b).toNat = ((a % 18446744073709551616).toNat &&& (b % 18446744073709551616).toNat) := by
    rw [BitVec.toNat_and, toNat64, toNat64]
  have hw : bits .and .i64 a b = IntKind.i64.wrap ((BitVec.ofInt 64 a &&& BitVec.ofInt 64 b).toNat : Nat) := rfl
  rw [hw, key, IntKind.wrap_i64, (and_odd_nat _ _ (by omega)).2]
  have ea : (((a % 18446744073709551616).toNat % 2 : Nat) : Int) = a % 2 := by omega
  have eb : (((b % 18446744073709551616).toNat % 2 : Nat) : Int) = b % 2 := by omega
  rw [ea, eb]
theorem mid_in (lo hi : Int) (h : chkI lo hi = 0) : chkI (midF lo hi 0) (midF lo hi 0) = 0 ∧ lo ≤ midF lo hi 0 ∧ midF lo hi 0 ≤ hi ∧ (midF lo hi 0 - lo = hi - midF lo hi 0 ∨ midF lo hi 0 - lo + 1 = hi - midF lo hi 0) ∧ -8000000000000000000 ≤ lo ∧ hi ≤ 8000000000000000000 := by
  have hb : lo ≤ hi ∧ -8000000000000000000 ≤ lo ∧ hi ≤ 8000000000000000000 := by
    unfold chkI at h
    by_cases c1 : lo > hi
    · rw [if_pos c1] at h; exact absurd h (by decide)
    rw [if_neg c1] at h
    by_cases c2 : lo < (-8000000000000000000)
    · rw [if_pos c2] at h; exact absurd h (by decide)
    rw [if_neg c2] at h
    by_cases c3 : hi > 8000000000000000000
    · rw [if_pos c3] at h; exact absurd h (by decide)
    omega
  obtain ⟨m, hm⟩ : ∃ m, m = midF lo hi 0 := ⟨_, rfl⟩
  have e : m = lo / 2 + hi / 2 + (lo % 2) * (hi % 2) := by
    rw [hm]; unfold midF
    rw [and_odd]
    rcases (by omega : lo % 2 = 0 ∨ lo % 2 = 1) with c | c <;> rcases (by omega : hi % 2 = 0 ∨ hi % 2 = 1) with d | d <;> rw [c, d] <;> (unfold wrap64; omega)
  rw [← hm]
  have hr : lo ≤ m ∧ m ≤ hi ∧ (m - lo = hi - m ∨ m - lo + 1 = hi - m) := by
    rw [e]
    rcases (by omega : lo % 2 = 0 ∨ lo % 2 = 1) with c | c <;> rcases (by omega : hi % 2 = 0 ∨ hi % 2 = 1) with d | d <;> rw [c, d] <;> omega
  refine ⟨?_, hr.1, hr.2.1, hr.2.2, hb.2.1, hb.2.2⟩
  unfold chkI
  rw [if_neg (by omega), if_neg (by omega), if_neg (by omega)]
def LN (h m : Int) : List S46 := [(⟨0, 0, 1, 3, 0⟩ : S46), (⟨0, 0, 1, 9, h⟩ : S46), (⟨0, 0, 1, 1, 0⟩ : S46), (⟨0, 0, 1, 9, m⟩ : S46)]
theorem chkLN (h m : Int) (h0 : 0 ≤ h ∧ h ≤ 4294967295) (m0 : 0 ≤ m ∧ m ≤ 4294967295) : CHK (LN h m) = 0 := by
  have e : ∀ v : Int, 0 ≤ v ∧ v ≤ 4294967295 → chkA (⟨0, 0, 1, 9, v⟩ : S46) = 0 := by
    intro v hv
    show (if ¬ ((0 : Int) ≤ 0 ∧ (0 : Int) ≤ 23) then (3 : Int) else if ¬ ((0 : Int) ≤ 0 ∧ (0 : Int) ≤ 1125899906842624) then 3 else if ¬ ((0 : Int) ≤ 1 ∧ (1 : Int) ≤ 1125899906842624) then 3 else if (1 : Int) < 0 then 12 else if rok 9 = false then 8 else if ¬ (rlo 9 ≤ v ∧ v ≤ rhi 9) then 3 else 0) = 0
    have h1 : rlo 9 = 0 := rfl
    have h2 : rhi 9 = 1125899906842624 := rfl
    rw [if_neg (by omega), if_neg (by omega), if_neg (by omega), if_neg (by omega), if_neg (by decide), h1, h2, if_neg (by omega)]
  unfold CHK LN
  rw [if_neg (by simp)]
  simp only [chkL, e h h0, e m m0, if_true]
  rfl
theorem applyLN (k : Nat) (hk : 32 < k) (h m lo hi : Int) (h0 : 0 ≤ h ∧ h ≤ 4294967295) (m0 : 0 ≤ m ∧ m ≤ 4294967295) (x : Fg) : applyF k (LN h m) 0 0 x = some { narX x 0 with dr := true, hd := wrap64 (wrap64 (x.hd + h) + m) } := by
  unfold applyF
  rw [active_f _ _ _ k hk, if_pos (chkLN h m h0 m0), Option.bind_some, show actU (LN h m) 0 0 (LN h m).length = [0, 1, 2, 3] from rfl]
  have hn : (narX x 0).hd = x.hd := by unfold narX; split <;> rfl
  simp only [aplL]
  rw [if_pos (by show (0 : Int) ≤ 0 ∧ (0 : Int) < 4; omega), show aplF k x (rd_T46 (LN h m) 0).f3 (rd_T46 (LN h m) 0).f4 0 = some (narX x 0) from rfl, Option.bind_some,
    if_pos (by show (0 : Int) ≤ 1 ∧ (1 : Int) < 4; omega), show aplF k (narX x 0) (rd_T46 (LN h m) 1).f3 (rd_T46 (LN h m) 1).f4 0 = some { narX x 0 with hd := wrap64 ((narX x 0).hd + h) } from rfl, Option.bind_some,
    if_pos (by show (0 : Int) ≤ 2 ∧ (2 : Int) < 4; omega), show ∀ y : Fg, aplF k y (rd_T46 (LN h m) 2).f3 (rd_T46 (LN h m) 2).f4 0 = some { y with dr := true } from fun y => rfl, Option.bind_some,
    if_pos (by show (0 : Int) ≤ 3 ∧ (3 : Int) < 4; omega), show ∀ y : Fg, aplF k y (rd_T46 (LN h m) 3).f3 (rd_T46 (LN h m) 3).f4 0 = some { y with hd := wrap64 (y.hd + m) } from fun y => rfl, Option.bind_some, hn]
theorem narrows_pure (lo hi h m : Int) (wl : -9223372036854775808 ≤ lo ∧ lo ≤ 9223372036854775807) (wh : -9223372036854775808 ≤ hi ∧ hi ≤ 9223372036854775807) (h0 : 0 ≤ h ∧ h ≤ 4294967295) (m0 : 0 ≤ m ∧ m ≤ 4294967295) : timesynclaw55_FaultNarrows.f 60 lo hi h m = some true := by
  have eh : wrap64 h = h := w64_in (by omega) (by omega)
  have em : wrap64 m = m := w64_in (by omega) (by omega)
  have ha := applyLN 60 (by omega) h m lo hi h0 m0 (⟨false, 0, 0, 0, 0, 0, 0, 0, 0, 0, 0, 0, 0, 0, lo, hi, 0⟩ : Fg)
  have hF : fault_Apply.f 60 (LN h m) 0 0 0 0 0 0 0 0 0 0 0 0 0 0 0 lo hi = some (true, 0, 0, 0, 0, 0, 0, 0, 0, 0, 0, 0, 0, 0, (narX (⟨false, 0, 0, 0, 0, 0, 0, 0, 0, 0, 0, 0, 0, 0, lo, hi, 0⟩ : Fg) 0).lo, (narX (⟨false, 0, 0, 0, 0, 0, 0, 0, 0, 0, 0, 0, 0, 0, lo, hi, 0⟩ : Fg) 0).hi, wrap64 (wrap64 (0 + h) + m)) := by
    unfold fault_Apply.f
    rw [ha]
    show some _ = some _
    unfold narX; split <;> rfl
  have e1 : wrap64 (0 + h) = h := by rw [Int.zero_add, eh]
  unfold timesynclaw55_FaultNarrows.f
  rw [eh, em]
  show (fault_Apply.f 60 (LN h m) 0 0 0 0 0 0 0 0 0 0 0 0 0 0 0 lo hi).bind _ = _
  rw [hF, Option.bind_some, if_pos rfl, e1, if_pos rfl]
  show timesynclaw55_FaultNarrows.j0 60 false lo hi true 0 0 0 0 0 0 0 0 0 0 0 0 0 _ _ _ = some true
  rw [timesynclaw55_FaultNarrows.j0, if_neg (by simp), chkI_f, Option.bind_some]
  by_cases c : chkI lo hi = 0
  · obtain ⟨i1, i2, i3, i4, i5, i6⟩ := mid_in lo hi c
    have e : narX (⟨false, 0, 0, 0, 0, 0, 0, 0, 0, 0, 0, 0, 0, 0, lo, hi, 0⟩ : Fg) 0 = (⟨false, 0, 0, 0, 0, 0, 0, 0, 0, 0, 0, 0, 0, 0, midF lo hi 0, midF lo hi 0, 0⟩ : Fg) := by unfold narX; rw [if_pos ⟨c, i1⟩]
    rw [if_pos c, e]
    obtain ⟨t, ht⟩ : ∃ t, t = midF lo hi 0 := ⟨_, rfl⟩
    rw [← ht] at i2 i3 i4 ⊢
    have uw : ∀ n : Int, IntKind.u64.wrap n = n % 18446744073709551616 := fun n => by simp [IntKind.wrap, IntKind.bits, IntKind.signed]
    rw [if_pos rfl, if_pos i2, if_pos i3]
    simp only [uw]
    rcases i4 with i4 | i4
    · rw [if_pos (by omega)]; rfl
    · rw [if_neg (by omega), if_pos (by omega)]; rfl
  · have e : narX (⟨false, 0, 0, 0, 0, 0, 0, 0, 0, 0, 0, 0, 0, 0, lo, hi, 0⟩ : Fg) 0 = (⟨false, 0, 0, 0, 0, 0, 0, 0, 0, 0, 0, 0, 0, 0, lo, hi, 0⟩ : Fg) := by unfold narX; rw [if_neg (fun x => c x.1)]
    rw [if_neg c, e, if_pos (by simp)]; rfl
theorem narrows_law (W : World) (lo hi : Int) (wl : (Lit.int .i64 lo).wf = true) (wh : (Lit.int .i64 hi).wf = true) (h : Int) (w1 : (Lit.int .u32 h).wf = true) (m : Int) (w2 : (Lit.int .u32 m).wf = true) :
    Calls Try.prog 8 #[.agg #[.int .i64 lo, .int .i64 hi], .int .u32 h, .int .u32 m] W fun e W' => e = .returned (.bool true) ∧ Below W.heap.size W W' := by
  have f64 : ∀ a : Int, (Lit.int .i64 a).wf = true → -9223372036854775808 ≤ a ∧ a ≤ 9223372036854775807 := fun a h => by simpa [Lit.wf, IntKind.min, IntKind.max, IntKind.signed, IntKind.bits] using h
  have f32 : ∀ a : Int, (Lit.int .u32 a).wf = true → 0 ≤ a ∧ a ≤ 4294967295 := fun a h => by simpa [Lit.wf, IntKind.min, IntKind.max, IntKind.signed, IntKind.bits] using h
  exact timesynclaw55_FaultNarrows.calls 60 lo hi h m true W (narrows_pure lo hi h m (f64 _ wl) (f64 _ wh) (f32 _ w1) (f32 _ w2))
end Go.Proofs.Ytcnckfhibmlioaa.Fa
