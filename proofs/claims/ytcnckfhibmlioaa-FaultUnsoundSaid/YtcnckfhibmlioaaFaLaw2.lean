/- FaultUnsound: the walk and the plain law, joined. -/
import Derived.Test.YtcnckfhibmlioaaFaUns
import Derived.Test.YtcnckfhibmlioaaPFax12
import Derived.Test.YtcnckfhibmlioaaFaOpen
namespace Go.Proofs.Ytcnckfhibmlioaa.Fa
open Go Go.RowKit Go.Proofs.Ytcnckfhibmlioaa Go.Proofs.Ytcnckfhibmlioaa.PFa Go.Proofs.YtcnckfhibmlioaaW.PrintWords
set_option linter.unusedVariables false
theorem faultUnsound_pure (n : Int) (S : List (List Int)) (l : List S46) (hS : ∀ xs ∈ S, xs.length ≤ BIG) (hl : S.length ≤ BIG) : ∃ k, timesynclaw55_FaultUnsound.f k n S l = some true := by
  obtain ⟨c1, h1⟩ := unsound_f n S l hS
  obtain ⟨c2, h2⟩ := runsound_f n S l hS
  refine ⟨(S.length + BIG + 100 + c1 + c2) + 1, ?_⟩
  have e1 := h1 (S.length + BIG + 100 + c2)
  have e2 := h2 (S.length + BIG + 100 + c1) (by omega)
  rw [show S.length + BIG + 100 + c2 + c1 = S.length + BIG + 100 + c1 + c2 by omega] at e1
  obtain ⟨b, hb⟩ := many_f S hl ((S.length + BIG + 100 + c1 + c2) + 1) (by omega)
  have e3 := equal_f (UNS n S l) (by have := UNS_len n S l; omega) (S.length + BIG + 100 + c1 + c2) (by have := UNS_len n S l; omega)
  have j : ∀ b, timesynclaw55_FaultUnsound.j0 ((S.length + BIG + 100 + c1 + c2) + 1) n S l b = some true := by
    intro b
    rw [timesynclaw55_FaultUnsound.j0]
    by_cases c : b = true
    · rw [if_pos c]; rfl
    · rw [if_neg c, e1, Option.bind_some, e2, Option.bind_some, e3, Option.bind_some, if_pos rfl]; rfl
  unfold timesynclaw55_FaultUnsound.f
  rw [show timesynclaw55_long.f l = some (decide ((l.length : Int) > 200)) from rfl, Option.bind_some]
  by_cases h : (l.length : Int) > 200
  · rw [decide_eq_true h, if_pos rfl]; exact j _
  · rw [decide_eq_false h, if_neg (by simp), hb, Option.bind_some]; exact j _
theorem unsound_law (W : World) (n : Int) (wn : (Lit.int .i64 n).wf = true) (A1 : Option Addr) (cap1 : Nat) (S : List (List Int)) (hlc1 : S.length ≤ cap1) (hcm1 : cap1 ≤ maxLen) (hC1 : Kd.C (Kd.slice 3 (Kd.int .i64)) W A1 S.length S) (hQ1 : ∀ a ∈ S, a.length ≤ maxLen ∧ ∀ b ∈ a, (Lit.int .i64 b).wf = true)
    (A : Option Addr) (cap : Nat) (l : List S46) (hlc : l.length ≤ cap) (hcm : cap ≤ maxLen) (hC : Kd.C k46 W A l.length l) (hQ : ∀ a ∈ l, S46.wf a) :
    Calls Try.prog 5 #[.int .i64 n, .slice A1 S.length cap1, .slice A l.length cap] W fun e W' => e = .returned (.bool true) ∧ Below W.heap.size W W' := by
  have hm : maxLen ≤ BIG := of_decide_eq_true (by kernel_rfl)
  obtain ⟨k, hk⟩ := faultUnsound_pure n S l (fun xs hx => Nat.le_trans (hQ1 xs hx).1 hm) (Nat.le_trans (Nat.le_trans hlc1 hcm1) hm)
  exact timesynclaw55_FaultUnsound.calls k n A1 cap1 S A cap l true W hC1 hlc1 hC hlc hk
end Go.Proofs.Ytcnckfhibmlioaa.Fa
