/- FaultApplies: what its walk computes answers true; then walk and law, joined. -/
import Derived.Test.YtcnckfhibmlioaaFaTot
import Derived.Test.YtcnckfhibmlioaaFaRefSt
import Derived.Test.YtcnckfhibmlioaaFaApW
import Derived.Test.YtcnckfhibmlioaaFaOpen
namespace Go.Proofs.Ytcnckfhibmlioaa.Fa
open Go Go.RowKit Go.Proofs.Ytcnckfhibmlioaa Go.Proofs.Ytcnckfhibmlioaa.PFa Go.Proofs.Ytcnckfhibmlioaa.Ob Go.Proofs.Ytcnckfhibmlioaa.Math Go.Proofs.YtcnckfhibmlioaaW.PrintWords Go.Proofs.YtcnckfhibmlioaaW.PrintMore
set_option linter.unusedVariables false
set_option linter.unusedSimpArgs false
theorem within_r (a b c : Int) : timesyncref55_within.f a b c = some (decide (b ≤ a ∧ a ≤ c)) := by
  unfold timesyncref55_within.f
  by_cases h : b ≤ a
  · rw [if_pos h]; congr 1; exact decide_eq_decide.mpr ⟨fun e => ⟨h, e⟩, fun e => e.2⟩
  · rw [if_neg h, decide_eq_false (fun e => h e.1)]
/-- The value fits its kind. -/
theorem fits_f (k : Nat) (kd vl : Int) (h : 1 ≤ kd ∧ kd ≤ 9) : timesyncref55_fits.f (k + 1) kd vl = some (decide (rlo kd ≤ vl ∧ vl ≤ rhi kd)) := by
  unfold timesyncref55_fits.f timesyncref55_fits.j0
  simp only [within_r, Option.bind_some]
  by_cases e2 : kd = 2
  · subst e2; rfl
  by_cases e3 : kd = 3
  · subst e3; rfl
  have b3 : (kd == 3) = false := beq_eq_false_iff_ne.mpr e3
  rw [if_neg e2, b3, if_neg (by simp)]
  unfold rlo rhi
  by_cases e5 : kd = 5
  · subst e5; rfl
  by_cases e6 : kd = 6
  · subst e6; rfl
  by_cases e9 : kd = 9
  · subst e9; rfl
  rw [if_neg e5, if_neg e6, if_neg e9, if_neg (by omega), if_neg e5, if_neg (by omega), if_neg e5, if_neg e6]
  congr 1
  by_cases z : vl = 0
  · subst z; rfl
  · rw [beq_eq_false_iff_ne.mpr z, decide_eq_false (by omega)]
theorem rok_iff (kd : Int) : rok kd = decide (1 ≤ kd ∧ kd ≤ 9) := by
  unfold rok
  rw [Bool.decide_and]
theorem rcheck_l0 (l : List S46) (hl : l.length ≤ 32) : ∀ (k i : Nat), i ≤ l.length → 2 * (l.length - i) + 3 ≤ k → timesyncref55_Check.l0 k l (i : Int) = some (chkL (l.drop i))
  | 0, i, _, h => by omega
  | 1, i, _, h => by omega
  | k + 2, i, hi, hk => by
    by_cases hlt : i < l.length
    · have hj : ∀ (b : Bool) , timesyncref55_Check.j1 (k + 1) l (i : Int) b (l[i]).f0 (l[i]).f1 (l[i]).f2 (l[i]).f3 (l[i]).f4 = some (if b = true then 3 else if (l[i]).f2 < (l[i]).f1 then 12 else if rok (l[i]).f3 = false then 8 else if ¬ (rlo (l[i]).f3 ≤ (l[i]).f4 ∧ (l[i]).f4 ≤ rhi (l[i]).f3) then 3 else chkL (l.drop (i + 1))) := by
        intro b
        unfold timesyncref55_Check.j1
        by_cases hb : b = true
        · rw [if_pos hb, if_pos hb]
        rw [if_neg hb, if_neg hb]
        by_cases ho : (l[i]).f2 < (l[i]).f1
        · rw [if_pos ho, if_pos ho]
        rw [if_neg (by omega), if_neg ho, within_r, Option.bind_some, rok_iff]
        by_cases hr : 1 ≤ (l[i]).f3 ∧ (l[i]).f3 ≤ 9
        · obtain ⟨k', rfl⟩ : ∃ k', k = k' + 1 := ⟨k - 1, by omega⟩
          rw [decide_eq_true hr, if_pos rfl, if_neg (by simp), fits_f k' _ _ hr, Option.bind_some, step_w i (by omega)]
          by_cases hf : rlo (l[i]).f3 ≤ (l[i]).f4 ∧ (l[i]).f4 ≤ rhi (l[i]).f3
          · rw [decide_eq_true hf, if_pos rfl, if_neg (not_not_intro hf)]; exact rcheck_l0 l hl (k' + 1) (i + 1) (by omega) (by omega)
          · rw [decide_eq_false hf, if_neg (by simp), if_pos hf]
        · rw [decide_eq_false hr, if_neg (by simp), if_pos rfl]
      unfold timesyncref55_Check.l0
      rw [if_pos (by omega), if_pos (by omega), rd_at l i hlt, List.drop_eq_getElem_cons hlt]
      simp only [within_r, Option.bind_some, hj]
      show _ = some (if chkA l[i] = 0 then chkL (l.drop (i + 1)) else chkA l[i])
      unfold chkA chkF
      by_cases h1 : 0 ≤ (l[i]).f0 ∧ (l[i]).f0 ≤ 23
      · rw [decide_eq_true h1, if_pos rfl, if_neg (not_not_intro h1)]
        by_cases h2 : 0 ≤ (l[i]).f1 ∧ (l[i]).f1 ≤ 1125899906842624
        · rw [decide_eq_true h2, if_pos rfl, if_neg (not_not_intro h2)]
          by_cases h3 : 0 ≤ (l[i]).f2 ∧ (l[i]).f2 ≤ 1125899906842624
          · rw [decide_eq_true h3, if_neg (not_not_intro h3)]
            simp only [Bool.not_true, Bool.false_eq_true, if_false]
            by_cases h4 : (l[i]).f2 < (l[i]).f1
            · simp [h4]
            simp only [h4, if_false]
            by_cases h5 : rok (l[i]).f3 = false
            · simp [h5]
            simp only [h5, if_false]
            by_cases h6 : rlo (l[i]).f3 ≤ (l[i]).f4 ∧ (l[i]).f4 ≤ rhi (l[i]).f3
            · simp [h6]
            · simp [h6]
          · rw [decide_eq_false h3, if_pos h3]; simp
        · rw [decide_eq_false h2, if_pos h2]; simp
      · rw [decide_eq_false h1, if_pos h1]; simp
    · unfold timesyncref55_Check.l0
      rw [if_neg (by omega), List.drop_of_length_le (by omega)]; rfl
theorem rcheck_f (l : List S46) (k : Nat) (hk : 70 ≤ k) : timesyncref55_Check.f k l = some (CHK l) := by
  unfold timesyncref55_Check.f CHK
  by_cases h : l.length > 32
  · rw [if_pos (by omega), if_pos h]
  · rw [if_neg (by omega), if_neg h]; exact rcheck_l0 l (by omega) k 0 (by omega) (by omega)
theorem equal_l0 (l : List Int) (hl : l.length ≤ 4000000) : ∀ (k i : Nat), i ≤ l.length → l.length - i < k → slices_Equal_int_int.l0 k l l (l.length : Int) (i : Int) = some true
  | 0, i, _, h => by omega
  | k + 1, i, hi, hk => by
    unfold slices_Equal_int_int.l0
    by_cases hlt : i < l.length
    · rw [if_pos (by omega), if_pos (by omega), if_pos (by omega), if_pos (by omega), if_pos rfl, step_w i (by omega)]
      exact equal_l0 l hl k (i + 1) (by omega) (by omega)
    · rw [if_neg (by omega)]
theorem equal_f (l : List Int) (hl : l.length ≤ 4000000) (k : Nat) (hk : l.length < k) : slices_Equal_int_int.f k l l = some true := by
  unfold slices_Equal_int_int.f
  rw [if_pos rfl]
  exact equal_l0 l hl k 0 (by omega) (by omega)
theorem toNat64 (z : Int) : (BitVec.ofInt 64 z).toNat = (z % 18446744073709551616).toNat := by rw [BitVec.toNat_ofInt]; rfl
theorem and_one (z : Int) : bits .and .i64 z 1 = z % 2 := by
  have h1 : (BitVec.ofInt 64 1).toNat = 2 ^ 1 - 1 := by decide
  have key : (BitVec.ofInt 64 z &&& BitVec.ofInt 64 1).toNat = (z % 18446744073709551616).toNat % 2 := by
    rw [BitVec.toNat_and, h1, Nat.and_two_pow_sub_one_eq_mod, toNat64]
  show IntKind.i64.wrap ((BitVec.ofInt 64 z &&& BitVec.ofInt 64 1).toNat : Nat) = z % 2
  rw [key, IntKind.wrap_i64]
  omega
theorem and_odd_nat (p q : Nat) (hp : p < 18446744073709551616) : (((p &&& q : Nat) : Int) + 9223372036854775808) % 18446744073709551616 - 9223372036854775808 = (((p &&& q : Nat) : Int) + 9223372036854775808) % 18446744073709551616 - 9223372036854775808 ∧ ((((p &&& q : Nat) : Int) + 9223372036854775808) % 18446744073709551616 - 9223372036854775808) % 2 = ((p % 2 : Nat) : Int) * ((q % 2 : Nat) : Int) := by
  refine ⟨rfl, ?_⟩
  have hm : (p &&& q) % 2 = (p % 2) &&& (q % 2) := Nat.and_mod_two_pow (n := 1)
  generalize p &&& q = r at hm ⊢
  have e1 : (((r : Int) + 9223372036854775808) % 18446744073709551616 - 9223372036854775808) % 2 = ((r % 2 : Nat) : Int) := by omega
  rw [e1, hm]
  rcases Nat.mod_two_eq_zero_or_one p with c | c <;> rcases Nat.mod_two_eq_zero_or_one q with d | d <;> rw [c, d] <;> rfl
theorem and_odd (a b : Int) : bits .and .i64 (bits .and .i64 a b) 1 = (a % 2) * (b % 2) := by
  rw [and_one]
  have key : (BitVec.ofInt 64 a &&& BitVec.ofInt 64 b).toNat = ((a % 18446744073709551616).toNat &&& (b % 18446744073709551616).toNat) := by
    rw [BitVec.toNat_and, toNat64, toNat64]
  have hw : bits .and .i64 a b = IntKind.i64.wrap ((BitVec.ofInt 64 a &&& BitVec.ofInt 64 b).toNat : Nat) := rfl
  rw [hw, key, IntKind.wrap_i64, (and_odd_nat _ _ (by omega)).2]
  have ea : (((a % 18446744073709551616).toNat % 2 : Nat) : Int) = a % 2 := by omega
  have eb : (((b % 18446744073709551616).toNat % 2 : Nat) : Int) = b % 2 := by omega
  rw [ea, eb]
theorem rchk (lo hi : Int) : timesyncref11_Check.f lo hi = some (chkI lo hi) := chkI_f lo hi
theorem chkI_in (lo hi : Int) (h : chkI lo hi = 0) : lo ≤ hi ∧ -8000000000000000000 ≤ lo ∧ hi ≤ 8000000000000000000 := by
  unfold chkI at h
  by_cases c1 : lo > hi
  · rw [if_pos c1] at h; exact absurd h (by decide)
  by_cases c2 : lo < -8000000000000000000
  · rw [if_neg c1, if_pos c2] at h; exact absurd h (by decide)
  by_cases c3 : hi > 8000000000000000000
  · rw [if_neg c1, if_neg c2, if_pos c3] at h; exact absurd h (by decide)
  omega
theorem chkI_or (lo hi : Int) : chkI lo hi = 0 ∨ chkI lo hi = 3 := by
  unfold chkI
  split
  · exact .inr rfl
  split
  · exact .inr rfl
  split
  · exact .inr rfl
  exact .inl rfl
/-- The reference moves an interval as the program does. -/
theorem shift_same (lo hi v : Int) (hv : -9223372036854775808 ≤ v ∧ v ≤ 9223372036854775807) : timesyncref11_Shift.f lo hi v = drift_Shift.f lo hi v := by
  unfold timesyncref11_Shift.f drift_Shift.f
  rw [rchk, chkI_f, Option.bind_some, Option.bind_some]
  by_cases c : chkI lo hi = 0
  · have hb := chkI_in lo hi c
    rw [if_pos c, if_pos c, FxFa.radd_f lo v (by omega) (by omega) hv.1 hv.2, FxFa.radd_f hi v (by omega) (by omega) hv.1 hv.2, FxFa.add_f lo v (by omega) (by omega) hv.1 hv.2, FxFa.add_f hi v (by omega) (by omega) hv.1 hv.2]
    have hw : ∀ a b : Int, timesyncref11_valid.f a b = drift_valid.f a b := by
      intro a b
      unfold timesyncref11_valid.f drift_valid.f
      rw [rchk, chkI_f, Option.bind_some, Option.bind_some]
      rcases chkI_or a b with e | e
      · rw [if_pos e, if_pos e]
      · rw [if_neg (by omega), if_neg (by omega), e]
    simp only [hw]
  · rw [if_neg c, if_neg c]
/-- A timestamp, moved. -/
def SV (s ta v : Int) : Int := if (StFa.tm s (wrap64 (3900000000000000000 + ta))).2 = 0 then StFa.un (wrap64 ((StFa.tm s (wrap64 (3900000000000000000 + ta))).1 + v)) % 18446744073709551616 else s
theorem sv_p (s ta v : Int) (s0 : 0 ≤ s) (s1 : s ≤ 18446744073709551615) : svF 60 s ta v = some (SV s ta v) := by
  unfold svF SV
  have hp := w64_b (3900000000000000000 + ta)
  have ht := w64_b ((StFa.tm s (wrap64 (3900000000000000000 + ta))).1 + v)
  rw [StFa.time_f 60 s _ s0 s1 hp.1 hp.2 (by omega), Option.bind_some, StFa.of_f 60 _ ht.1 ht.2 (by omega)]
  split <;> rfl
theorem sv_r (k : Nat) (hk : 20 ≤ k) (s ta v : Int) (s0 : 0 ≤ s) (s1 : s ≤ 18446744073709551615) : timesyncref55_later.f k s ta v = some (SV s ta v) := by
  unfold timesyncref55_later.f SV
  have hp := w64_b (3900000000000000000 + ta)
  have ht := w64_b ((StFa.tm s (wrap64 (3900000000000000000 + ta))).1 + v)
  rw [StFa.rtime_f k s _ s0 s1 hp.1 hp.2 hk, Option.bind_some, StFa.rof_f _ ht.1 ht.2]
  split <;> rfl
theorem floor2 (k : Nat) (hk : 130 ≤ k) (a : Int) (h0 : -8000000000000000000 ≤ a) (h1 : a ≤ 8000000000000000000) : timesyncref01_Floor.f k a 2 = some (a / 2, true) := by
  rw [FxFa.rfloor_f k a 2 (by omega) (by omega) (by omega) (by omega) hk]
  unfold md
  rw [if_neg (by decide), ex_in (by unfold fl; rw [if_pos (by decide)]; omega)]
  unfold fl
  rw [if_pos (by decide), Int.mul_one]
theorem middle_f (k : Nat) (hk : 130 ≤ k) (lo hi v : Int) (h : chkI lo hi = 0) : ∃ m, timesyncref55_middle.f k lo hi = some m ∧ wrap64 (m + v) = midF lo hi v := by
  obtain ⟨h1, h2, h3⟩ := chkI_in lo hi h
  refine ⟨wrap64 (wrap64 (lo / 2 + hi / 2) + lo % 2 * (hi % 2)), ?_, by unfold midF; rw [and_odd]⟩
  unfold timesyncref55_middle.f
  rw [floor2 k hk lo (by omega) (by omega), floor2 k hk hi (by omega) (by omega)]
  simp only [Option.bind_some]
  have e1 : wrap64 (lo - wrap64 (2 * (lo / 2))) = lo % 2 := by rw [w64_in (x := 2 * (lo / 2)) (by omega) (by omega), w64_in (by omega) (by omega)]; omega
  have e2 : wrap64 (hi - wrap64 (2 * (hi / 2))) = hi % 2 := by rw [w64_in (x := 2 * (hi / 2)) (by omega) (by omega), w64_in (by omega) (by omega)]; omega
  have e3 : wrap64 (lo / 2 + hi / 2) = lo / 2 + hi / 2 := w64_in (by omega) (by omega)
  rw [e1, e2, e3]
  by_cases c1 : lo % 2 = 1
  · rw [if_pos c1]
    by_cases c2 : hi % 2 = 1
    · rw [if_pos c2, c1, c2]; rfl
    · have : hi % 2 = 0 := by omega
      rw [if_neg c2, this, Int.mul_zero, Int.add_zero, e3]
  · have : lo % 2 = 0 := by omega
    rw [if_neg c1, this, Int.zero_mul, Int.add_zero, e3]
theorem rcode_f : ∀ k : Nat, timesyncref19_Code.f (k + 10) ⟨#[82, 65, 84, 69]⟩ = some (1380013125, 0)
  | 0 => by kernel_rfl
  | k + 1 => timesyncref19_Code.mono _ _ _ (rcode_f k)
theorem pcode_f : ntpmsg_Code.f 60 ⟨#[82, 65, 84, 69]⟩ = some (1380013125, 0) := by kernel_rfl
/-- The reference's one does what the program does. -/
theorem one_same (x y : Fg) (hx : fwf x) (nd fr tw kd vl ta : Int) (hk : 1 ≤ kd ∧ kd ≤ 9) (hv : -9223372036854775808 ≤ vl ∧ vl ≤ 9223372036854775807) (k : Nat) (hkk : 200 ≤ k) (h : aplF 60 x kd vl ta = some y) :
    timesyncref55_one.f k x.dr x.p0 x.p1 x.p2 x.p3 x.p4 x.p5 x.p6 x.p7 x.p8 x.p9 x.p10 x.p11 x.p12 x.lo x.hi x.hd nd fr tw kd vl ta = some (y.dr, y.p0, y.p1, y.p2, y.p3, y.p4, y.p5, y.p6, y.p7, y.p8, y.p9, y.p10, y.p11, y.p12, y.lo, y.hi, y.hd) := by
  unfold aplF at h
  unfold timesyncref55_one.f
  by_cases e1 : kd = 1
  · rw [if_pos e1] at h ⊢; cases h; rfl
  rw [if_neg e1] at h ⊢
  by_cases e2 : kd = 2
  · rw [if_pos e2] at h ⊢
    rw [sv_p x.p11 ta vl hx.1.1 hx.1.2, Option.bind_some, sv_p x.p12 ta vl hx.2.1 hx.2.2, Option.bind_some] at h
    rw [sv_r k (by omega) x.p11 ta vl hx.1.1 hx.1.2, Option.bind_some, sv_r k (by omega) x.p12 ta vl hx.2.1 hx.2.2, Option.bind_some, shift_same x.lo x.hi vl hv]
    obtain ⟨r, h3⟩ := shift_tot x.lo x.hi vl
    rw [h3, Option.bind_some] at h ⊢
    unfold shiX at h
    by_cases c : r.2.2 = 0
    · rw [if_pos c] at h ⊢; cases h; rfl
    · rw [if_neg c] at h ⊢; cases h; rfl
  rw [if_neg e2] at h ⊢
  by_cases e3 : kd = 3
  · rw [if_pos e3] at h ⊢
    cases h
    rw [rchk, Option.bind_some]
    by_cases c : chkI x.lo x.hi = 0
    · obtain ⟨m, hm, hm2⟩ := middle_f k (by omega) x.lo x.hi vl c
      rw [if_pos c, hm, Option.bind_some, hm2, rchk, Option.bind_some]
      unfold narX
      by_cases d : chkI (midF x.lo x.hi vl) (midF x.lo x.hi vl) = 0
      · rw [if_pos d, if_pos ⟨c, d⟩]
      · rw [if_neg d, if_neg (fun e => d e.2)]
    · unfold narX
      rw [if_neg c, if_neg (fun e => c e.1)]
  rw [if_neg e3] at h ⊢
  by_cases e4 : kd = 4
  · rw [if_pos e4] at h ⊢; cases h; rfl
  rw [if_neg e4] at h ⊢
  by_cases e5 : kd = 5
  · rw [if_pos e5] at h ⊢; cases h; rfl
  rw [if_neg e5] at h ⊢
  by_cases e6 : kd = 6
  · rw [if_pos e6] at h ⊢; cases h; rfl
  rw [if_neg e6] at h ⊢
  by_cases e7 : kd = 7
  · rw [if_pos e7] at h ⊢; cases h; rfl
  rw [if_neg e7] at h ⊢
  by_cases e8 : kd = 8
  · rw [if_pos e8] at h ⊢
    obtain ⟨q, rfl⟩ : ∃ q, k = q + 10 := ⟨k - 10, by omega⟩
    rw [pcode_f, Option.bind_some] at h
    rw [rcode_f q, Option.bind_some]
    cases h; rfl
  rw [if_neg e8] at h ⊢
  have e9 : kd = 9 := by omega
  rw [if_pos e9] at h ⊢
  cases h; rfl
theorem kind_ok (a : S46) (ha : chkA a = 0) : 1 ≤ a.f3 ∧ a.f3 ≤ 9 := by
  unfold chkA chkF at ha
  split at ha; · exact absurd ha (by decide)
  split at ha; · exact absurd ha (by decide)
  split at ha; · exact absurd ha (by decide)
  split at ha; · exact absurd ha (by decide)
  split at ha; · exact absurd ha (by decide)
  rename_i hr
  unfold rok at hr
  have h1 : (decide (1 ≤ a.f3) && decide (a.f3 ≤ 9)) = true := by simpa using hr
  have h2 := Bool.and_eq_true _ _ ▸ h1
  exact ⟨of_decide_eq_true h2.1, of_decide_eq_true h2.2⟩
theorem actU_yes (l : List S46) (nd ta : Int) (m : Nat) (e : actT l nd ta m = true) : actU l nd ta (m + 1) = actU l nd ta m ++ [(m : Int)] := by
  unfold actU; rw [List.range_succ, List.filter_append, List.map_append]; simp only [List.filter_cons, e, if_true, List.filter_nil, List.map_cons, List.map_nil]
theorem actU_no (l : List S46) (nd ta : Int) (m : Nat) (e : actT l nd ta m = false) : actU l nd ta (m + 1) = actU l nd ta m := by
  unfold actU; rw [List.range_succ, List.filter_append, List.map_append]; simp only [List.filter_cons, e, Bool.false_eq_true, if_false, List.filter_nil, List.map_nil, List.append_nil]
theorem actU_len (l : List S46) (nd ta : Int) (m : Nat) : (actU l nd ta m).length ≤ m := by unfold actU; rw [List.length_map]; exact Nat.le_trans (List.length_filter_le _ _) (by simp)
theorem ract_l0 (l : List S46) (nd ta : Int) (hl : l.length ≤ 32) : ∀ (d j k0 : Nat), j + d = l.length → timesyncref55_Active.l0 (k0 + d + 1) l nd ta (actU l nd ta j) (j : Int) = some (actU l nd ta l.length) := by
  intro d
  induction d with
  | zero =>
    intro j k0 hj
    have e : j = l.length := by omega
    subst e
    rw [timesyncref55_Active.l0, if_neg (by omega)]
  | succ d ih =>
    intro j k0 hj
    have hn := ih (j + 1) k0 (by omega)
    have hle := actU_len l nd ta j
    rw [show k0 + (d + 1) + 1 = (k0 + d + 1) + 1 by omega, timesyncref55_Active.l0, if_pos (by omega), if_pos (by omega), step_w j (by omega)]
    by_cases c1 : (rd_T46 l (j : Int)).f0 = nd
    · rw [if_pos c1]
      by_cases c2 : (rd_T46 l (j : Int)).f1 ≤ ta
      · rw [if_pos c2]
        by_cases c3 : ta < (rd_T46 l (j : Int)).f2
        · rw [if_pos c3, if_pos (by omega), ← actU_yes l nd ta j (by unfold actT; rw [decide_eq_true c1, decide_eq_true c2, decide_eq_true c3]; rfl)]
          exact hn
        · rw [if_neg c3, ← actU_no l nd ta j (by unfold actT; rw [decide_eq_false c3, Bool.and_false, Bool.and_false])]
          exact hn
      · rw [if_neg c2, ← actU_no l nd ta j (by unfold actT; rw [decide_eq_false c2, Bool.false_and, Bool.and_false])]
        exact hn
    · rw [if_neg c1, ← actU_no l nd ta j (by unfold actT; rw [decide_eq_false c1, Bool.false_and])]
      exact hn
theorem ract_f (l : List S46) (nd ta : Int) (k : Nat) (hk : 70 ≤ k) : timesyncref55_Active.f k l nd ta = some (if CHK l = 0 then actU l nd ta l.length else []) := by
  unfold timesyncref55_Active.f
  rw [rcheck_f l k hk, Option.bind_some]
  by_cases h : CHK l = 0
  · have hl := (CHK_ok l h).1
    rw [if_pos h, if_pos h]
    obtain ⟨k0, rfl⟩ : ∃ k0, k = k0 + l.length + 1 := ⟨k - l.length - 1, by omega⟩
    exact ract_l0 l nd ta hl l.length 0 k0 (by omega)
  · rw [if_neg h, if_neg h]
theorem rapp_l0 (l : List S46) (ta : Int) (hc : ∀ a ∈ l, chkA a = 0) (hw : ∀ a ∈ l, -9223372036854775808 ≤ a.f4 ∧ a.f4 ≤ 9223372036854775807) (act : List Int) (ha : act.length ≤ 32) : ∀ (d j k0 : Nat) (x y : Fg), j + d = act.length → 200 ≤ k0 → fwf x → aplL 60 l ta (act.drop j) x = some y →
    timesyncref55_Apply.l0 (k0 + d + 1) l ta act (j : Int) x.dr x.p0 x.p1 x.p2 x.p3 x.p4 x.p5 x.p6 x.p7 x.p8 x.p9 x.p10 x.p11 x.p12 x.lo x.hi x.hd = some (y.dr, y.p0, y.p1, y.p2, y.p3, y.p4, y.p5, y.p6, y.p7, y.p8, y.p9, y.p10, y.p11, y.p12, y.lo, y.hi, y.hd) := by
  intro d
  induction d with
  | zero =>
    intro j k0 x y hj hk hx h
    rw [List.drop_eq_nil_of_le (by omega)] at h
    cases h
    rw [timesyncref55_Apply.l0, if_neg (by omega)]
  | succ d ih =>
    intro j k0 x y hj hk hx h
    have hlt : j < act.length := by omega
    rw [List.drop_eq_getElem_cons hlt] at h
    unfold aplL at h
    have hr : rd act (j : Int) = act[j] := by unfold rd; rw [Int.toNat_natCast, List.getD_eq_getElem?_getD, List.getElem?_eq_getElem hlt]; rfl
    by_cases c : 0 ≤ act[j] ∧ act[j] < (l.length : Int)
    · rw [if_pos c] at h
      obtain ⟨z, h1, h2⟩ := Option.bind_eq_some_iff.mp h
      have hi : act[j].toNat < l.length := by omega
      have hm : rd_T46 l act[j] ∈ l := by
        unfold rd_T46; rw [List.getD_eq_getElem?_getD, List.getElem?_eq_getElem hi]; exact List.getElem_mem hi
      have kk := kind_ok _ (hc _ hm)
      obtain ⟨z', hz1, hz2⟩ := aplF_tot x hx (rd_T46 l act[j]).f3 (rd_T46 l act[j]).f4 ta kk
      rw [h1] at hz1
      cases hz1
      rw [show k0 + (d + 1) + 1 = (k0 + d + 1) + 1 by omega, timesyncref55_Apply.l0, if_pos (by omega), if_pos (by omega), hr, if_pos c.1, if_pos c.2,
        one_same x z hx _ _ _ _ _ ta kk (hw _ hm) (k0 + d + 1) (by omega) h1, Option.bind_some, step_w j (by omega)]
      exact ih (j + 1) k0 z y (by omega) hk hz2 h2
    · rw [if_neg c] at h; cases h
theorem applies_pure (l : List S46) (nd ta p0 p1 p2 p3 p4 p5 p6 p7 p8 p9 p10 p11 p12 lo hi : Int) (h11 : 0 ≤ p11 ∧ p11 ≤ 18446744073709551615) (h12 : 0 ≤ p12 ∧ p12 ≤ 18446744073709551615) (hw : ∀ a ∈ l, -9223372036854775808 ≤ a.f4 ∧ a.f4 ≤ 9223372036854775807) :
    ∃ k, timesynclaw55_FaultApplies.f k l nd ta p0 p1 p2 p3 p4 p5 p6 p7 p8 p9 p10 p11 p12 lo hi = some true := by
  refine ⟨300, ?_⟩
  unfold timesynclaw55_FaultApplies.f
  rw [show timesynclaw55_long.f l = some (decide ((l.length : Int) > 200)) from rfl, Option.bind_some]
  by_cases h : (l.length : Int) > 200
  · rw [decide_eq_true h, if_pos rfl]; rfl
  rw [decide_eq_false h, if_neg (by simp), active_f l nd ta 300 (by omega), Option.bind_some, ract_f l nd ta 300 (by omega), Option.bind_some]
  have hact : (if CHK l = 0 then actU l nd ta l.length else []).length ≤ 32 := by
    by_cases c : CHK l = 0
    · rw [if_pos c]; exact Nat.le_trans (actU_len _ _ _ _) (CHK_ok l c).1
    · rw [if_neg c]; simp
  rw [equal_f _ (by omega) 300 (by omega), Option.bind_some, if_pos rfl]
  have hx : fwf (⟨false, p0, p1, p2, p3, p4, p5, p6, p7, p8, p9, p10, p11, p12, lo, hi, 0⟩ : Fg) := ⟨h11, h12⟩
  obtain ⟨y, hy⟩ := applyF_tot l nd ta _ hx
  have hA : applyF 300 l nd ta (⟨false, p0, p1, p2, p3, p4, p5, p6, p7, p8, p9, p10, p11, p12, lo, hi, 0⟩ : Fg) = some y := by
    have up : ∀ d : Nat, applyF (60 + d) l nd ta (⟨false, p0, p1, p2, p3, p4, p5, p6, p7, p8, p9, p10, p11, p12, lo, hi, 0⟩ : Fg) = some y := by
      intro d
      induction d with
      | zero => exact hy
      | succ d ih => exact applyF_mono _ _ _ _ _ _ ih
    exact up 240
  have hF : fault_Apply.f 300 l nd ta p0 p1 p2 p3 p4 p5 p6 p7 p8 p9 p10 p11 p12 lo hi = some (y.dr, y.p0, y.p1, y.p2, y.p3, y.p4, y.p5, y.p6, y.p7, y.p8, y.p9, y.p10, y.p11, y.p12, y.lo, y.hi, y.hd) := by unfold fault_Apply.f; rw [hA]; rfl
  have hR : timesyncref55_Apply.f 300 l nd ta p0 p1 p2 p3 p4 p5 p6 p7 p8 p9 p10 p11 p12 lo hi = some (y.dr, y.p0, y.p1, y.p2, y.p3, y.p4, y.p5, y.p6, y.p7, y.p8, y.p9, y.p10, y.p11, y.p12, y.lo, y.hi, y.hd) := by
    unfold timesyncref55_Apply.f
    rw [ract_f l nd ta 300 (by omega), Option.bind_some]
    unfold applyF at hy
    rw [active_f l nd ta 60 (by omega), Option.bind_some] at hy
    by_cases c : CHK l = 0
    · rw [if_pos c] at hy hact ⊢
      have t := rapp_l0 l ta (CHK_ok l c).2 hw (actU l nd ta l.length) hact (actU l nd ta l.length).length 0 (299 - (actU l nd ta l.length).length) _ y (by omega) (by omega) hx (by rw [List.drop_zero]; exact hy)
      rw [show 299 - (actU l nd ta l.length).length + (actU l nd ta l.length).length + 1 = 300 by omega] at t
      exact t
    · rw [if_neg c] at hy ⊢
      cases hy
      rw [timesyncref55_Apply.l0, if_neg (by simp)]
  rw [hF, Option.bind_some, hR, Option.bind_some]
  simp only [beq_self_eq_true, Bool.and_self, if_true]
  rfl
theorem applies_law (W : World) (A : Option Addr) (cap : Nat) (l : List S46) (hlc : l.length ≤ cap) (hcm : cap ≤ maxLen) (hC : Kd.C k46 W A l.length l) (hQ : ∀ a ∈ l, S46.wf a) (nd : Int) (wn : (Lit.int .i64 nd).wf = true) (ta : Int) (wt : (Lit.int .i64 ta).wf = true) (p0 p1 p2 p3 p4 p5 p6 p7 p8 p9 p10 p11 p12 : Int) (w3_0 : (Lit.int .i64 p0).wf = true) (w3_1 : (Lit.int .i64 p1).wf = true) (w3_2 : (Lit.int .i64 p2).wf = true) (w3_3 : (Lit.int .i64 p3).wf = true) (w3_4 : (Lit.int .i64 p4).wf = true) (w3_5 : (Lit.int .i64 p5).wf = true) (w3_6 : (Lit.int .u32 p6).wf = true) (w3_7 : (Lit.int .u32 p7).wf = true) (w3_8 : (Lit.int .u32 p8).wf = true) (w3_9 : (Lit.int .u64 p9).wf = true) (w3_10 : (Lit.int .u64 p10).wf = true) (w3_11 : (Lit.int .u64 p11).wf = true) (w3_12 : (Lit.int .u64 p12).wf = true) (lo hi : Int) (wl : (Lit.int .i64 lo).wf = true) (wh : (Lit.int .i64 hi).wf = true) :
    Calls Try.prog 4 #[.slice A l.length cap, .int .i64 nd, .int .i64 ta, .agg #[.int .i64 p0, .int .i64 p1, .int .i64 p2, .int .i64 p3, .int .i64 p4, .int .i64 p5, .int .u32 p6, .int .u32 p7, .int .u32 p8, .int .u64 p9, .int .u64 p10, .int .u64 p11, .int .u64 p12], .agg #[.int .i64 lo, .int .i64 hi]] W fun e W' => e = .returned (.bool true) ∧ Below W.heap.size W W' := by
  have f64 : ∀ a : Int, (Lit.int .u64 a).wf = true → 0 ≤ a ∧ a ≤ 18446744073709551615 := fun a h => by simpa [Lit.wf, IntKind.min, IntKind.max, IntKind.signed, IntKind.bits] using h
  have i64 : ∀ a : Int, (Lit.int .i64 a).wf = true → -9223372036854775808 ≤ a ∧ a ≤ 9223372036854775807 := fun a h => by simpa [Lit.wf, IntKind.min, IntKind.max, IntKind.signed, IntKind.bits] using h
  obtain ⟨k, hk⟩ := applies_pure l nd ta p0 p1 p2 p3 p4 p5 p6 p7 p8 p9 p10 p11 p12 lo hi (f64 _ w3_11) (f64 _ w3_12) (fun a ha => i64 _ (hQ a ha).2.2.2.2)
  exact timesynclaw55_FaultApplies.true_ k A cap l nd ta p0 p1 p2 p3 p4 p5 p6 p7 p8 p9 p10 p11 p12 lo hi W hC hlc hk
end Go.Proofs.Ytcnckfhibmlioaa.Fa
