/- FaultShifts: the walk and the plain law, joined: a shift makes timestamps stand for instants that are later by its value. -/
import Derived.Test.YtcnckfhibmlioaaFaTot
import Derived.Test.YtcnckfhibmlioaaFaShW
import Derived.Test.YtcnckfhibmlioaaFaOpen
namespace Go.Proofs.Ytcnckfhibmlioaa.Fa
open Go Go.RowKit Go.Proofs.Ytcnckfhibmlioaa Go.Proofs.Ytcnckfhibmlioaa.PFa Go.Proofs.Ytcnckfhibmlioaa.Ob Go.Proofs.YtcnckfhibmlioaaW.PrintWords
set_option linter.unusedVariables false
set_option linter.unusedSimpArgs false
def Bs : Int := 3900000000000000000
def wd (t : Int) : Int := StFa.un t % 18446744073709551616
theorem wd_in (t : Int) : 0 ≤ wd t ∧ wd t ≤ 18446744073709551615 := by unfold wd; omega
theorem time_wd (t p : Int) (h0 : 3800000000000000000 ≤ t ∧ t ≤ 4000000000000000000) (h1 : 3800000000000000000 ≤ p ∧ p ≤ 4000000000000000000) : stamp_Time.f 60 (wd t) p = some (t, 0) := by
  have hw := wd_in t
  rw [StFa.time_f 60 (wd t) p hw.1 hw.2 (by omega) (by omega) (by omega)]
  exact congrArg some (StFa.tm_back t p (by omega) (by omega) (by omega) (by omega) (by omega) (by omega))
theorem of_wd (t : Int) (h0 : 3800000000000000000 ≤ t ∧ t ≤ 4000000000000000000) : stamp_Of.f 60 t = some (wd t) := StFa.of_f 60 t (by omega) (by omega) (by omega)
theorem sv_wd (t ta v : Int) (h0 : 3850000000000000000 ≤ t ∧ t ≤ 3950000000000000000) (h1 : 0 ≤ ta ∧ ta ≤ 4294967295) (hv : -1125899906842624 ≤ v ∧ v ≤ 1125899906842624) : svF 60 (wd t) ta v = some (wd (t + v)) := by
  unfold svF
  rw [w64_in (by omega) (by omega), time_wd t _ (by omega) (by omega), Option.bind_some]
  show (if (0 : Int) = 0 then _ else _) = _
  rw [if_pos rfl]
  show stamp_Of.f 60 (wrap64 (t + v)) = _
  rw [w64_in (by omega) (by omega)]
  exact of_wd _ (by omega)
theorem chk0 (lo hi : Int) (h : lo ≤ hi) (h1 : -8000000000000000000 ≤ lo) (h2 : hi ≤ 8000000000000000000) : chkI lo hi = 0 := by
  unfold chkI; rw [if_neg (by omega), if_neg (by omega), if_neg (by omega)]
theorem add_in (a b : Int) (ha : -4000000000000000000 ≤ a ∧ a ≤ 4000000000000000000) (hb : -4000000000000000000 ≤ b ∧ b ≤ 4000000000000000000) : fixed_Add.f a b = some (a + b, true) := by
  rw [FxFa.add_f a b (by omega) (by omega) (by omega) (by omega)]
  rw [Math.ex_in (by omega)]
theorem shift_in (lo hi v : Int) (h : lo ≤ hi) (h1 : -4000000000 ≤ lo) (h2 : hi ≤ 4000000000) (hv : -1125899906842624 ≤ v ∧ v ≤ 1125899906842624) : drift_Shift.f lo hi v = some (lo + v, hi + v, 0) := by
  unfold drift_Shift.f
  rw [chkI_f, chk0 lo hi h (by omega) (by omega), Option.bind_some, if_pos rfl, add_in lo v (by omega) (by omega), Option.bind_some, add_in hi v (by omega) (by omega), Option.bind_some]
  show (if true = true then _ else _) = _
  rw [if_pos rfl]
  show (if true = true then _ else _) = _
  rw [if_pos rfl]
  unfold drift_valid.f
  show (Option.bind (Option.bind (drift_Check.f (lo + v) (hi + v)) _) _) = _
  rw [chkI_f, chk0 (lo + v) (hi + v) (by omega) (by omega) (by omega), Option.bind_some, if_pos rfl]
  rfl
def LS (v : Int) : List S46 := [(⟨3, 0, 1125899906842624, 2, v⟩ : S46)]
theorem chkLS (v : Int) (hv : -1125899906842624 ≤ v ∧ v ≤ 1125899906842624) : CHK (LS v) = 0 := by
  have e : chkA (⟨3, 0, 1125899906842624, 2, v⟩ : S46) = 0 := by
    show (if ¬ ((0 : Int) ≤ 3 ∧ (3 : Int) ≤ 23) then (3 : Int) else if ¬ ((0 : Int) ≤ 0 ∧ (0 : Int) ≤ 1125899906842624) then 3 else if ¬ ((0 : Int) ≤ 1125899906842624 ∧ (1125899906842624 : Int) ≤ 1125899906842624) then 3 else if (1125899906842624 : Int) < 0 then 12 else if rok 2 = false then 8 else if ¬ (rlo 2 ≤ v ∧ v ≤ rhi 2) then 3 else 0) = 0
    have h1 : rlo 2 = -1125899906842624 := rfl
    have h2 : rhi 2 = 1125899906842624 := rfl
    rw [if_neg (by omega), if_neg (by omega), if_neg (by omega), if_neg (by omega), if_neg (by decide), h1, h2, if_neg (by omega)]
  unfold CHK LS
  rw [if_neg (by simp)]
  simp only [chkL, e, if_true]
theorem shifts_pure (ta a1 a2 a3 lo wi : Int) (h0 : 0 ≤ ta ∧ ta ≤ 4294967295) (h1 : 0 ≤ a1 ∧ a1 ≤ 4294967295) (h2 : 0 ≤ a2 ∧ a2 ≤ 4294967295) (h4 : -2147483648 ≤ lo ∧ lo ≤ 2147483647) (h5 : 0 ≤ wi ∧ wi ≤ 65535) : timesynclaw55_FaultShifts.f 60 ta a1 a2 a3 lo wi = some true := by
  have hv : -1125899906842624 ≤ Int.tmod a3 1125899906842625 ∧ Int.tmod a3 1125899906842625 ≤ 1125899906842624 := by
    have ha := Int.natAbs_tmod a3 1125899906842625
    have hb : (a3.natAbs % (1125899906842625 : Int).natAbs) < 1125899906842625 := Nat.mod_lt _ (by decide)
    omega
  obtain ⟨v, ev⟩ : ∃ v, v = Int.tmod a3 1125899906842625 := ⟨_, rfl⟩
  rw [← ev] at hv
  unfold timesynclaw55_FaultShifts.f
  rw [← ev, w64_in (x := ta) (by omega) (by omega), w64_in (x := a1) (by omega) (by omega), w64_in (x := a2) (by omega) (by omega), w64_in (x := lo) (by omega) (by omega), w64_in (x := wi) (by omega) (by omega),
    w64_in (x := 3900000000000000000 + a1) (by omega) (by omega), w64_in (x := 3900000000000000000 + a2) (by omega) (by omega), w64_in (x := 3900000000000000000 + ta) (by omega) (by omega), w64_in (x := lo + wi) (by omega) (by omega),
    w64_in (x := 3900000000000000000 + a1 + v) (by omega) (by omega), w64_in (x := 3900000000000000000 + a2 + v) (by omega) (by omega), w64_in (x := lo + v) (by omega) (by omega), w64_in (x := lo + wi + v) (by omega) (by omega),
    of_wd (3900000000000000000 + a1) (by omega), Option.bind_some, of_wd (3900000000000000000 + a2) (by omega), Option.bind_some]
  have hF : fault_Apply.f 60 (LS v) 3 ta 0 0 0 0 0 0 0 0 0 0 7 (wd (3900000000000000000 + a1)) (wd (3900000000000000000 + a2)) lo (lo + wi) = some (false, 0, 0, 0, 0, 0, 0, 0, 0, 0, 0, 7, wd (3900000000000000000 + a1 + v), wd (3900000000000000000 + a2 + v), lo + v, lo + wi + v, 0) := by
    unfold fault_Apply.f
    have hfil : (LS v).filter (tst 3 ta) = LS v := by
      unfold LS; rw [List.filter_cons]
      have : tst 3 ta (⟨3, 0, 1125899906842624, 2, v⟩ : S46) = true := by
        show (decide ((3 : Int) = 3) && (decide ((0 : Int) ≤ ta) && decide (ta < 1125899906842624))) = true
        rw [decide_eq_true (by omega : (0 : Int) ≤ ta), decide_eq_true (by omega : ta < 1125899906842624)]; rfl
      rw [this]; rfl
    rw [apply_fold 60 (by omega), if_pos (chkLS v hv), hfil]
    have hA : aplF 60 (⟨false, 0, 0, 0, 0, 0, 0, 0, 0, 0, 0, 7, wd (3900000000000000000 + a1), wd (3900000000000000000 + a2), lo, lo + wi, 0⟩ : Fg) 2 v ta = some (⟨false, 0, 0, 0, 0, 0, 0, 0, 0, 0, 0, 7, wd (3900000000000000000 + a1 + v), wd (3900000000000000000 + a2 + v), lo + v, lo + wi + v, 0⟩ : Fg) := by
      unfold aplF
      rw [if_neg (by decide), if_pos rfl, sv_wd _ ta v (by omega) h0 hv, Option.bind_some, sv_wd _ ta v (by omega) h0 hv, Option.bind_some, shift_in lo (lo + wi) v (by omega) (by omega) (by omega) hv, Option.bind_some]
      unfold shiX
      rw [if_pos rfl]
    show Option.map _ (Option.bind (aplF 60 (⟨false, 0, 0, 0, 0, 0, 0, 0, 0, 0, 0, 7, wd (3900000000000000000 + a1), wd (3900000000000000000 + a2), lo, lo + wi, 0⟩ : Fg) 2 v ta) _) = _
    rw [hA]; rfl
  show (fault_Apply.f 60 (LS v) 3 ta 0 0 0 0 0 0 0 0 0 0 7 (wd (3900000000000000000 + a1)) (wd (3900000000000000000 + a2)) lo (lo + wi)).bind _ = _
  rw [hF, Option.bind_some]
  show (stamp_Time.f 60 (wd (3900000000000000000 + a1 + v)) (3900000000000000000 + ta)).bind _ = _
  rw [time_wd _ _ (by omega) (by omega), Option.bind_some]
  show (stamp_Time.f 60 (wd (3900000000000000000 + a2 + v)) (3900000000000000000 + ta)).bind _ = _
  rw [time_wd _ _ (by omega) (by omega), Option.bind_some, if_pos rfl, if_pos rfl, if_pos rfl, if_pos rfl]
  simp only [beq_self_eq_true, Bool.and_self, Bool.not_false, if_true]
  rfl
theorem shifts_law (W : World) (a0 : Int) (w0 : (Lit.int .u32 a0).wf = true) (a1 : Int) (w1 : (Lit.int .u32 a1).wf = true) (a2 : Int) (w2 : (Lit.int .u32 a2).wf = true) (a3 : Int) (w3 : (Lit.int .i64 a3).wf = true) (a4 : Int) (w4 : (Lit.int .i32 a4).wf = true) (a5 : Int) (w5 : (Lit.int .u16 a5).wf = true) :
    Calls Try.prog 7 #[.int .u32 a0, .int .u32 a1, .int .u32 a2, .int .i64 a3, .int .i32 a4, .int .u16 a5] W fun e W' => e = .returned (.bool true) ∧ Below W.heap.size W W' := by
  have f32 : ∀ a : Int, (Lit.int .u32 a).wf = true → 0 ≤ a ∧ a ≤ 4294967295 := fun a h => by simpa [Lit.wf, IntKind.min, IntKind.max, IntKind.signed, IntKind.bits] using h
  have g4 : -2147483648 ≤ a4 ∧ a4 ≤ 2147483647 := by simpa [Lit.wf, IntKind.min, IntKind.max, IntKind.signed, IntKind.bits] using w4
  have g5 : 0 ≤ a5 ∧ a5 ≤ 65535 := by simpa [Lit.wf, IntKind.min, IntKind.max, IntKind.signed, IntKind.bits] using w5
  exact timesynclaw55_FaultShifts.true_ 60 a0 a1 a2 a3 a4 a5 W (shifts_pure a0 a1 a2 a3 a4 a5 (f32 _ w0) (f32 _ w1) (f32 _ w2) g4 g5)
end Go.Proofs.Ytcnckfhibmlioaa.Fa
