/- Check of the program, without any program: the first error of a list. -/
import Derived.Test.YtcnckfhibmlioaaPFax7
namespace Go.Proofs.Ytcnckfhibmlioaa.Fa
open Go Go.RowKit Go.Proofs.Ytcnckfhibmlioaa.PFa Go.Proofs.Ytcnckfhibmlioaa.Ob Go.Proofs.YtcnckfhibmlioaaW.PrintWords
set_option linter.unusedVariables false
set_option linter.unusedSimpArgs false
/-- The error of one fault. -/
def chkA (a : S46) : Int := chkF a.f0 a.f1 a.f2 a.f3 a.f4
/-- The first error of a list. -/
def chkL : List S46 → Int
  | [] => 0
  | a :: r => if chkA a = 0 then chkL r else chkA a
def CHK (l : List S46) : Int := if l.length > 32 then 6 else chkL l
theorem rd_at (l : List S46) (j : Nat) (hj : j < l.length) : rd_T46 l (j : Int) = l[j] := by unfold rd_T46; rw [Int.toNat_natCast, List.getD_eq_getElem?_getD, List.getElem?_eq_getElem hj]; rfl
theorem step_w (i : Nat) (h : i ≤ 4000000) : wrap64 ((i : Int) + 1) = ((i + 1 : Nat) : Int) := by rw [w64_in (by omega) (by omega)]; omega
theorem check_l0 (l : List S46) (hl : l.length ≤ 32) : ∀ (k i : Nat), i ≤ l.length → l.length - i < k → fault_Check.l0 k l (l.length : Int) (i : Int) = some (chkL (l.drop i))
  | 0, i, _, h => by omega
  | k + 1, i, hi, hk => by
    unfold fault_Check.l0
    by_cases hlt : i < l.length
    · rw [if_pos (by omega), if_pos (by omega), if_pos (by omega), rd_at l i hlt, step_w i (by omega), List.drop_eq_getElem_cons hlt]
      show (some (chkA l[i])).bind _ = _
      rw [Option.bind_some]
      show _ = some (if chkA l[i] = 0 then chkL (l.drop (i + 1)) else chkA l[i])
      by_cases e : chkA l[i] = 0
      · rw [if_pos e, if_pos e]; exact check_l0 l hl k (i + 1) (by omega) (by omega)
      · rw [if_neg e, if_neg e]
    · rw [if_neg (by omega), List.drop_of_length_le (by omega)]; rfl
theorem check_f (l : List S46) (k : Nat) (hk : 32 < k) : fault_Check.f k l = some (CHK l) := by
  unfold fault_Check.f CHK
  by_cases h : l.length > 32
  · rw [if_pos (by omega), if_pos h]
  · rw [if_neg (by omega), if_neg h]; exact check_l0 l (by omega) k 0 (by omega) (by omega)
theorem chkL_mem (l : List S46) (h : chkL l = 0) : ∀ a ∈ l, chkA a = 0 := by
  induction l with
  | nil => intro a ha; cases ha
  | cons b r ih =>
    unfold chkL at h
    by_cases e : chkA b = 0
    · rw [if_pos e] at h
      intro a ha
      rcases List.mem_cons.mp ha with rfl | ha
      · exact e
      · exact ih h a ha
    · rw [if_neg e] at h; exact absurd h e
theorem CHK_ok (l : List S46) (h : CHK l = 0) : l.length ≤ 32 ∧ ∀ a ∈ l, chkA a = 0 := by
  unfold CHK at h
  by_cases e : l.length > 32
  · rw [if_pos e] at h; exact absurd h (by decide)
  · rw [if_neg e] at h; exact ⟨by omega, chkL_mem l h⟩
theorem active_f (l : List S46) (nd ta : Int) (k : Nat) (hk : 32 < k) : fault_Active.f k l nd ta = some (if CHK l = 0 then actU l nd ta l.length else []) := by
  unfold fault_Active.f
  rw [check_f l k hk, Option.bind_some]
  by_cases h : CHK l = 0
  · have hl := (CHK_ok l h).1
    rw [if_pos h, if_pos h]
    exact (act_l0 l nd ta hl k 0 (Nat.zero_le _)).2 (by omega)
  · rw [if_neg h, if_neg h]
end Go.Proofs.Ytcnckfhibmlioaa.Fa
