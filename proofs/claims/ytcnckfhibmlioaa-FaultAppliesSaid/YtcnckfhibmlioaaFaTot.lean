/- Apply without any program: it is a fold over the active faults, it returns for every script, and the faults of other nodes and times have no effect. -/
import Derived.Test.YtcnckfhibmlioaaFaChk0
import Derived.Test.YtcnckfhibmlioaaFaStamp
namespace Go.Proofs.Ytcnckfhibmlioaa.Fa
open Go Go.RowKit Go.Proofs.Ytcnckfhibmlioaa Go.Proofs.Ytcnckfhibmlioaa.PFa Go.Proofs.Ytcnckfhibmlioaa.Ob Go.Proofs.YtcnckfhibmlioaaW.PrintWords
set_option linter.unusedVariables false
set_option linter.unusedSimpArgs false
/-- This fault is of the node, and active. -/
def tst (nd ta : Int) (a : S46) : Bool := decide (a.f0 = nd) && (decide (a.f1 ≤ ta) && decide (ta < a.f2))
/-- The faults, applied one behind the other. -/
def aplX (k : Nat) (ta : Int) : List S46 → Fg → Option Fg
  | [], x => some x
  | a :: r, x => (aplF k x a.f3 a.f4 ta).bind fun y => aplX k ta r y
theorem aplX_snoc (k : Nat) (ta : Int) (a : S46) : ∀ (l : List S46) (x : Fg), aplX k ta (l ++ [a]) x = (aplX k ta l x).bind fun y => aplF k y a.f3 a.f4 ta
  | [], x => by show (aplF k x a.f3 a.f4 ta).bind (fun y => some y) = (some x).bind _; rw [Option.bind_some]; cases aplF k x a.f3 a.f4 ta <;> rfl
  | b :: r, x => by
    show (aplF k x b.f3 b.f4 ta).bind (fun y => aplX k ta (r ++ [a]) y) = ((aplF k x b.f3 b.f4 ta).bind fun y => aplX k ta r y).bind _
    rw [Option.bind_assoc]
    congr 1; funext y; exact aplX_snoc k ta a r y
theorem aplL_snoc (k : Nat) (l : List S46) (ta : Int) (j : Nat) (hj : j < l.length) : ∀ (is : List Int) (x : Fg), aplL k l ta (is ++ [(j : Int)]) x = (aplL k l ta is x).bind fun y => aplF k y (l[j]).f3 (l[j]).f4 ta
  | [], x => by
    show aplL k l ta [(j : Int)] x = (some x).bind _
    rw [Option.bind_some]
    unfold aplL
    rw [if_pos (by omega), rd_at l j hj]
    cases aplF k x (l[j]).f3 (l[j]).f4 ta <;> rfl
  | i :: r, x => by
    show (if 0 ≤ i ∧ i < (l.length : Int) then (aplF k x (rd_T46 l i).f3 (rd_T46 l i).f4 ta).bind fun y => aplL k l ta (r ++ [(j : Int)]) y else none) = (if 0 ≤ i ∧ i < (l.length : Int) then (aplF k x (rd_T46 l i).f3 (rd_T46 l i).f4 ta).bind fun y => aplL k l ta r y else none).bind _
    split
    · rw [Option.bind_assoc]
      congr 1; funext y; exact aplL_snoc k l ta j hj r y
    · rfl
theorem tst_at (l : List S46) (nd ta : Int) (j : Nat) (hj : j < l.length) : actT l nd ta j = tst nd ta l[j] := by unfold actT tst; rw [rd_at l j hj]
theorem act_fold (k : Nat) (l : List S46) (nd ta : Int) (x : Fg) : ∀ m, m ≤ l.length → aplL k l ta (actU l nd ta m) x = aplX k ta ((l.take m).filter (tst nd ta)) x ∧ (actU l nd ta m).length = ((l.take m).filter (tst nd ta)).length
  | 0, _ => ⟨rfl, rfl⟩
  | m + 1, h => by
    have ih := act_fold k l nd ta x m (by omega)
    have hm : m < l.length := by omega
    rw [List.take_succ_eq_append_getElem hm, List.filter_append]
    cases c : tst nd ta l[m] with
    | true =>
      rw [actU_yes l nd ta m (by rw [tst_at l nd ta m hm, c]), aplL_snoc k l ta m hm, ih.1, show [l[m]].filter (tst nd ta) = [l[m]] from by rw [List.filter_cons, c]; rfl, aplX_snoc]
      exact ⟨rfl, by rw [List.length_append, List.length_append, ih.2]; rfl⟩
    | false =>
      rw [actU_no l nd ta m (by rw [tst_at l nd ta m hm, c]), show [l[m]].filter (tst nd ta) = [] from by rw [List.filter_cons, c]; rfl, List.append_nil]
      exact ih
theorem apply_fold (k : Nat) (hk : 32 < k) (l : List S46) (nd ta : Int) (x : Fg) : applyF k l nd ta x = if CHK l = 0 then aplX k ta (l.filter (tst nd ta)) x else some x := by
  unfold applyF
  rw [active_f l nd ta k hk, Option.bind_some]
  by_cases c : CHK l = 0
  · rw [if_pos c, if_pos c, (act_fold k l nd ta x l.length (Nat.le_refl _)).1, List.take_of_length_le (Nat.le_refl _)]
  · rw [if_neg c, if_neg c]; rfl
theorem chk_sub : ∀ (l : List S46) (p : S46 → Bool), chkL l = 0 → chkL (l.filter p) = 0
  | [], _, _ => rfl
  | a :: r, p, h => by
    unfold chkL at h
    by_cases e : chkA a = 0
    · rw [if_pos e] at h
      rw [List.filter_cons]
      split
      · show (if chkA a = 0 then chkL (r.filter p) else chkA a) = 0
        rw [if_pos e]; exact chk_sub r p h
      · exact chk_sub r p h
    · rw [if_neg e] at h; exact absurd h e
theorem CHK_sub (l : List S46) (p : S46 → Bool) (h : CHK l = 0) : CHK (l.filter p) = 0 := by
  have hl := (CHK_ok l h).1
  have hlen : (l.filter p).length ≤ l.length := List.length_filter_le _ _
  unfold CHK at h ⊢
  rw [if_neg (by omega)] at h ⊢
  exact chk_sub l p h
/-- The faults of other nodes and times have no effect. -/
theorem apply_own (k : Nat) (hk : 32 < k) (l : List S46) (nd ta : Int) (x : Fg) (h : CHK l = 0) : applyF k (l.filter (tst nd ta)) nd ta x = applyF k l nd ta x := by
  rw [apply_fold k hk, apply_fold k hk, if_pos h, if_pos (CHK_sub l _ h), List.filter_filter]
  simp
/-- The timestamps of a reply are words. -/
def fwf (x : Fg) : Prop := (0 ≤ x.p11 ∧ x.p11 ≤ 18446744073709551615) ∧ 0 ≤ x.p12 ∧ x.p12 ≤ 18446744073709551615
theorem w64_b (n : Int) : -9223372036854775808 ≤ wrap64 n ∧ wrap64 n ≤ 9223372036854775807 := by unfold wrap64; omega
theorem svF_tot (s ta by_ : Int) (s0 : 0 ≤ s) (s1 : s ≤ 18446744073709551615) : ∃ v, svF 60 s ta by_ = some v ∧ 0 ≤ v ∧ v ≤ 18446744073709551615 := by
  unfold svF
  have hp := w64_b (3900000000000000000 + ta)
  rw [StFa.time_f 60 s _ s0 s1 hp.1 hp.2 (by omega), Option.bind_some]
  by_cases c : (StFa.tm s (wrap64 (3900000000000000000 + ta))).2 = 0
  · have ht := w64_b ((StFa.tm s (wrap64 (3900000000000000000 + ta))).1 + by_)
    rw [if_pos c, StFa.of_f 60 _ ht.1 ht.2 (by omega)]
    exact ⟨_, rfl, by omega, by omega⟩
  · rw [if_neg c]; exact ⟨s, rfl, s0, s1⟩
theorem shift_tot (lo hi d : Int) : ∃ r, drift_Shift.f lo hi d = some r := by
  have ha : ∀ a b : Int, ∃ r, fixed_Add.f a b = some r := fun a b => by unfold fixed_Add.f; split <;> exact ⟨_, rfl⟩
  have hv : ∀ a b : Int, ∃ r, drift_valid.f a b = some r := fun a b => by unfold drift_valid.f; rw [chkI_f, Option.bind_some]; split <;> exact ⟨_, rfl⟩
  unfold drift_Shift.f
  rw [chkI_f, Option.bind_some]
  obtain ⟨b, hb⟩ := ha lo d
  obtain ⟨c, hc⟩ := ha hi d
  obtain ⟨v, hv⟩ := hv b.1 c.1
  split
  · rw [hb, Option.bind_some, hc, Option.bind_some]
    split
    · split
      · rw [hv]; exact ⟨_, rfl⟩
      · exact ⟨_, rfl⟩
    · exact ⟨_, rfl⟩
  · exact ⟨_, rfl⟩
theorem aplF_tot (x : Fg) (hx : fwf x) (kd vl ta : Int) (hk : 1 ≤ kd ∧ kd ≤ 9) : ∃ y, aplF 60 x kd vl ta = some y ∧ fwf y := by
  unfold aplF
  by_cases e1 : kd = 1
  · rw [if_pos e1]; exact ⟨_, rfl, hx⟩
  rw [if_neg e1]
  by_cases e2 : kd = 2
  · rw [if_pos e2]
    obtain ⟨a, h1, a0, a1⟩ := svF_tot x.p11 ta vl hx.1.1 hx.1.2
    obtain ⟨b, h2, b0, b1⟩ := svF_tot x.p12 ta vl hx.2.1 hx.2.2
    obtain ⟨r, h3⟩ := shift_tot x.lo x.hi vl
    rw [h1, Option.bind_some, h2, Option.bind_some, h3, Option.bind_some]
    refine ⟨_, rfl, ?_⟩
    unfold shiX; split <;> exact ⟨⟨a0, a1⟩, b0, b1⟩
  rw [if_neg e2]
  by_cases e3 : kd = 3
  · rw [if_pos e3]; refine ⟨_, rfl, ?_⟩; unfold narX; split <;> exact hx
  rw [if_neg e3]
  by_cases e4 : kd = 4
  · rw [if_pos e4]; exact ⟨_, rfl, hx⟩
  rw [if_neg e4]
  by_cases e5 : kd = 5
  · rw [if_pos e5]; exact ⟨_, rfl, hx⟩
  rw [if_neg e5]
  by_cases e6 : kd = 6
  · rw [if_pos e6]; exact ⟨_, rfl, hx⟩
  rw [if_neg e6]
  by_cases e7 : kd = 7
  · rw [if_pos e7]; exact ⟨_, rfl, hx⟩
  rw [if_neg e7]
  by_cases e8 : kd = 8
  · rw [if_pos e8]
    obtain ⟨c, hc⟩ : ∃ c, ntpmsg_Code.f 60 ⟨#[82, 65, 84, 69]⟩ = some c := ⟨(1380013125, 0), by kernel_rfl⟩
    rw [hc]; exact ⟨_, rfl, hx⟩
  rw [if_neg e8, if_pos (by omega)]
  exact ⟨_, rfl, hx⟩
theorem aplX_tot (ta : Int) : ∀ (l : List S46) (x : Fg), fwf x → (∀ a ∈ l, chkA a = 0) → ∃ y, aplX 60 ta l x = some y ∧ fwf y
  | [], x, hx, _ => ⟨x, rfl, hx⟩
  | a :: r, x, hx, h => by
    have ha := h a List.mem_cons_self
    have hk : 1 ≤ a.f3 ∧ a.f3 ≤ 9 := by
      unfold chkA chkF at ha
      split at ha; · exact absurd ha (by decide)
      split at ha; · exact absurd ha (by decide)
      split at ha; · exact absurd ha (by decide)
      split at ha; · exact absurd ha (by decide)
      split at ha; · exact absurd ha (by decide)
      rename_i hr
      unfold rok at hr
      have h1 : (decide (1 ≤ a.f3) && decide (a.f3 ≤ 9)) = true := by simpa using hr
      have h2 := Bool.and_eq_true _ _ ▸ h1
      exact ⟨of_decide_eq_true h2.1, of_decide_eq_true h2.2⟩
    obtain ⟨y, h1, h2⟩ := aplF_tot x hx a.f3 a.f4 ta hk
    obtain ⟨z, h3, h4⟩ := aplX_tot ta r y h2 (fun b hb => h b (List.mem_cons_of_mem _ hb))
    exact ⟨z, by show (aplF 60 x a.f3 a.f4 ta).bind _ = _; rw [h1, Option.bind_some, h3], h4⟩
theorem applyF_tot (l : List S46) (nd ta : Int) (x : Fg) (hx : fwf x) : ∃ y, applyF 60 l nd ta x = some y := by
  rw [apply_fold 60 (by omega)]
  by_cases c : CHK l = 0
  · rw [if_pos c]
    obtain ⟨y, h, _⟩ := aplX_tot ta (l.filter (tst nd ta)) x hx (fun a ha => (CHK_ok l c).2 a (List.mem_filter.mp ha).1)
    exact ⟨y, h⟩
  · rw [if_neg c]; exact ⟨x, rfl⟩
end Go.Proofs.Ytcnckfhibmlioaa.Fa
