-- Printed for this claim by this session's turned copy of the print (wip/tools/xprint.sh)
import Derived.Test.YtcnckfhibmlioaaPFax0
import Derived.Test.YtcnckfhibmlioaaPFax6
namespace Go.Proofs.Ytcnckfhibmlioaa.PFa
open Go.RowKit Go.Proofs.YtcnckfhibmlioaaW.PrintWords Go.Proofs.YtcnckfhibmlioaaW.PrintLast Go.Proofs.YtcnckfhibmlioaaW.PrintMore
attribute [local go_sem] max2_int min2_int max_two min_two max_three min_three max_four min_four   -- for this text's walks alone
set_option linter.unusedVariables false
set_option linter.unusedSimpArgs false

/-! ### fault_Unsound: function 23 -/
mutual
def fault_Unsound.j0 : Nat → Int → List (List Int) → List (S46) → Bool → Option (List Int)
  | 0, _, _, _, _ => none
  | k + 1, x0, x1, x2, x23 => if x23 = true then (some ([] : List Int)) else (if 0 ≤ x0 then (if (x0 : Int).toNat ≤ 281474976710656 then ((fault_Nodes.f k x2).bind fun t143 => (fault_Unsound.l0 k x0 x1 (List.replicate (x0 : Int).toNat false) t143 (t143.length : Int) 0)) else (none)) else (none))
def fault_Unsound.l0 : Nat → Int → List (List Int) → List Bool → List Int → Int → Int → Option (List Int)
  | 0, _, _, _, _, _, _ => none
  | k + 1, x0, x1, x7, x27, x28, x29 => if x29 < x28 then (if 0 ≤ x29 then (if x29 < (x27.length : Int) then (if (rd x27 x29) < x0 then (if 0 ≤ (rd x27 x29) then (if (rd x27 x29) < (x7.length : Int) then (fault_Unsound.l0 k x0 x1 (x7.set ((rd x27 x29) : Int).toNat true) x27 x28 (wrap64 (x29 + 1))) else (none)) else (none)) else (fault_Unsound.l0 k x0 x1 x7 x27 x28 (wrap64 (x29 + 1)))) else (none)) else (none)) else (fault_Unsound.l1 k x0 x1 x7 true)
def fault_Unsound.l1 : Nat → Int → List (List Int) → List Bool → Bool → Option (List Int)
  | 0, _, _, _, _ => none
  | k + 1, x0, x1, x7, x10 => if x10 = true then (fault_Unsound.l2 k x0 x1 x7 false 0) else (fault_Unsound.l4 k ([] : List Int) x7 (x7.length : Int) 0)
def fault_Unsound.l2 : Nat → Int → List (List Int) → List Bool → Bool → Int → Option (List Int)
  | 0, _, _, _, _, _ => none
  | k + 1, x0, x1, x7, x10, x11 => if x11 < x0 then (fault_Unsound.j4 k x0 x1 x7 x10 x11 (decide (x11 < (x1.length : Int)))) else (fault_Unsound.j4 k x0 x1 x7 x10 x11 false)
def fault_Unsound.j4 : Nat → Int → List (List Int) → List Bool → Bool → Int → Bool → Option (List Int)
  | 0, _, _, _, _, _, _ => none
  | k + 1, x0, x1, x7, x10, x11, x49 => if x49 = true then (if 0 ≤ x11 then (if x11 < (x1.length : Int) then (fault_Unsound.l3 k x0 x1 x7 x10 x11 0 (rd_L4 x1 x11) ((rd_L4 x1 x11).length : Int) 0) else (none)) else (none)) else (fault_Unsound.l1 k x0 x1 x7 x10)
def fault_Unsound.l3 : Nat → Int → List (List Int) → List Bool → Bool → Int → Int → List Int → Int → Int → Option (List Int)
  | 0, _, _, _, _, _, _, _, _, _ => none
  | k + 1, x0, x1, x7, x10, x11, x12, x55, x56, x57 => if x57 < x56 then (if 0 ≤ x57 then (if x57 < (x55.length : Int) then (if (rd x55 x57) < 0 then (fault_Unsound.l3 k x0 x1 x7 x10 x11 (wrap64 (x12 + 1)) x55 x56 (wrap64 (x57 + 1))) else (if (rd x55 x57) ≥ x0 then (fault_Unsound.l3 k x0 x1 x7 x10 x11 (wrap64 (x12 + 1)) x55 x56 (wrap64 (x57 + 1))) else (if 0 ≤ (rd x55 x57) then (if (rd x55 x57) < (x7.length : Int) then (if rdOf false x7 (rd x55 x57) = true then (fault_Unsound.l3 k x0 x1 x7 x10 x11 (wrap64 (x12 + 1)) x55 x56 (wrap64 (x57 + 1))) else (fault_Unsound.l3 k x0 x1 x7 x10 x11 x12 x55 x56 (wrap64 (x57 + 1)))) else (none)) else (none)))) else (none)) else (none)) else (if 0 ≤ x11 then (if x11 < (x7.length : Int) then (if rdOf false x7 x11 = true then (fault_Unsound.l2 k x0 x1 x7 x10 (wrap64 (x11 + 1))) else (if x12 > 0 then (if x11 < (x1.length : Int) then (if (wrap64 (2 * x12)) ≥ ((rd_L4 x1 x11).length : Int) then (fault_Unsound.l2 k x0 x1 (x7.set (x11 : Int).toNat true) true (wrap64 (x11 + 1))) else (fault_Unsound.l2 k x0 x1 x7 x10 (wrap64 (x11 + 1)))) else (none)) else (fault_Unsound.l2 k x0 x1 x7 x10 (wrap64 (x11 + 1))))) else (none)) else (none))
def fault_Unsound.l4 : Nat → List Int → List Bool → Int → Int → Option (List Int)
  | 0, _, _, _, _ => none
  | k + 1, x15, x99, x100, x101 => if x101 < x100 then (if 0 ≤ x101 then (if x101 < (x99.length : Int) then (if rdOf false x99 x101 = true then (if x15.length < 17592186044416 then (fault_Unsound.l4 k (x15 ++ [x101]) x99 x100 (wrap64 (x101 + 1))) else (none)) else (fault_Unsound.l4 k x15 x99 x100 (wrap64 (x101 + 1)))) else (none)) else (none)) else (some x15)
end
def fault_Unsound.f (k : Nat) (a0 : Int) (l1 : List (List Int)) (l2 : List (S46)) : Option (List Int) := if a0 < 1 then (fault_Unsound.j0 k a0 l1 l2 true) else (fault_Unsound.j0 k a0 l1 l2 (decide (a0 > 24)))
theorem fault_Unsound.mono_l : ∀ k, (∀ y0 y1 y2 y3, LeO (fault_Unsound.j0 k y0 y1 y2 y3) (fault_Unsound.j0 (k + 1) y0 y1 y2 y3)) ∧ (∀ y0 y1 y2 y3 y4 y5, LeO (fault_Unsound.l0 k y0 y1 y2 y3 y4 y5) (fault_Unsound.l0 (k + 1) y0 y1 y2 y3 y4 y5)) ∧ (∀ y0 y1 y2 y3, LeO (fault_Unsound.l1 k y0 y1 y2 y3) (fault_Unsound.l1 (k + 1) y0 y1 y2 y3)) ∧ (∀ y0 y1 y2 y3 y4, LeO (fault_Unsound.l2 k y0 y1 y2 y3 y4) (fault_Unsound.l2 (k + 1) y0 y1 y2 y3 y4)) ∧ (∀ y0 y1 y2 y3 y4 y5, LeO (fault_Unsound.j4 k y0 y1 y2 y3 y4 y5) (fault_Unsound.j4 (k + 1) y0 y1 y2 y3 y4 y5)) ∧ (∀ y0 y1 y2 y3 y4 y5 y6 y7 y8, LeO (fault_Unsound.l3 k y0 y1 y2 y3 y4 y5 y6 y7 y8) (fault_Unsound.l3 (k + 1) y0 y1 y2 y3 y4 y5 y6 y7 y8)) ∧ (∀ y0 y1 y2 y3, LeO (fault_Unsound.l4 k y0 y1 y2 y3) (fault_Unsound.l4 (k + 1) y0 y1 y2 y3))
  | 0 => ⟨fun _ _ _ _ r h => by simp [fault_Unsound.j0] at h, fun _ _ _ _ _ _ r h => by simp [fault_Unsound.l0] at h, fun _ _ _ _ r h => by simp [fault_Unsound.l1] at h, fun _ _ _ _ _ r h => by simp [fault_Unsound.l2] at h, fun _ _ _ _ _ _ r h => by simp [fault_Unsound.j4] at h, fun _ _ _ _ _ _ _ _ _ r h => by simp [fault_Unsound.l3] at h, fun _ _ _ _ r h => by simp [fault_Unsound.l4] at h⟩
  | k + 1 => by
    obtain ⟨ih0, ih1, ih2, ih3, ih4, ih5, ih6⟩ := fault_Unsound.mono_l k
    refine ⟨?_, ?_, ?_, ?_, ?_, ?_, ?_⟩
    · intro y0 y1 y2 y3
      unfold fault_Unsound.j0
      repeat' first
      | (with_reducible exact ih0 _ _ _ _)
      | (with_reducible exact ih1 _ _ _ _ _ _)
      | (with_reducible exact ih2 _ _ _ _)
      | (with_reducible exact ih3 _ _ _ _ _)
      | (with_reducible exact ih4 _ _ _ _ _ _)
      | (with_reducible exact ih5 _ _ _ _ _ _ _ _ _)
      | (with_reducible exact ih6 _ _ _ _)
      | (with_reducible exact fault_Nodes.mono _ _)
      | (with_reducible exact LeO.refl _)
      | (with_reducible exact LeO.none _)
      | (with_reducible refine LeO.ite ?_ ?_)
      | (with_reducible refine LeO.bind ?_ (fun _ => ?_))
      | exact ih0 _ _ _ _
      | exact ih1 _ _ _ _ _ _
      | exact ih2 _ _ _ _
      | exact ih3 _ _ _ _ _
      | exact ih4 _ _ _ _ _ _
      | exact ih5 _ _ _ _ _ _ _ _ _
      | exact ih6 _ _ _ _
      | exact fault_Nodes.mono _ _
      | exact LeO.none _
      | refine LeO.ite ?_ ?_
      | refine LeO.bind ?_ (fun _ => ?_)
    · intro y0 y1 y2 y3 y4 y5
      unfold fault_Unsound.l0
      repeat' first
      | (with_reducible exact ih0 _ _ _ _)
      | (with_reducible exact ih1 _ _ _ _ _ _)
      | (with_reducible exact ih2 _ _ _ _)
      | (with_reducible exact ih3 _ _ _ _ _)
      | (with_reducible exact ih4 _ _ _ _ _ _)
      | (with_reducible exact ih5 _ _ _ _ _ _ _ _ _)
      | (with_reducible exact ih6 _ _ _ _)
      | (with_reducible exact fault_Nodes.mono _ _)
      | (with_reducible exact LeO.refl _)
      | (with_reducible exact LeO.none _)
      | (with_reducible refine LeO.ite ?_ ?_)
      | (with_reducible refine LeO.bind ?_ (fun _ => ?_))
      | exact ih0 _ _ _ _
      | exact ih1 _ _ _ _ _ _
      | exact ih2 _ _ _ _
      | exact ih3 _ _ _ _ _
      | exact ih4 _ _ _ _ _ _
      | exact ih5 _ _ _ _ _ _ _ _ _
      | exact ih6 _ _ _ _
      | exact fault_Nodes.mono _ _
      | exact LeO.none _
      | refine LeO.ite ?_ ?_
      | refine LeO.bind ?_ (fun _ => ?_)
    · intro y0 y1 y2 y3
      unfold fault_Unsound.l1
      repeat' first
      | (with_reducible exact ih0 _ _ _ _)
      | (with_reducible exact ih1 _ _ _ _ _ _)
      | (with_reducible exact ih2 _ _ _ _)
      | (with_reducible exact ih3 _ _ _ _ _)
      | (with_reducible exact ih4 _ _ _ _ _ _)
      | (with_reducible exact ih5 _ _ _ _ _ _ _ _ _)
      | (with_reducible exact ih6 _ _ _ _)
      | (with_reducible exact fault_Nodes.mono _ _)
      | (with_reducible exact LeO.refl _)
      | (with_reducible exact LeO.none _)
      | (with_reducible refine LeO.ite ?_ ?_)
      | (with_reducible refine LeO.bind ?_ (fun _ => ?_))
      | exact ih0 _ _ _ _
      | exact ih1 _ _ _ _ _ _
      | exact ih2 _ _ _ _
      | exact ih3 _ _ _ _ _
      | exact ih4 _ _ _ _ _ _
      | exact ih5 _ _ _ _ _ _ _ _ _
      | exact ih6 _ _ _ _
      | exact fault_Nodes.mono _ _
      | exact LeO.none _
      | refine LeO.ite ?_ ?_
      | refine LeO.bind ?_ (fun _ => ?_)
    · intro y0 y1 y2 y3 y4
      unfold fault_Unsound.l2
      repeat' first
      | (with_reducible exact ih0 _ _ _ _)
      | (with_reducible exact ih1 _ _ _ _ _ _)
      | (with_reducible exact ih2 _ _ _ _)
      | (with_reducible exact ih3 _ _ _ _ _)
      | (with_reducible exact ih4 _ _ _ _ _ _)
      | (with_reducible exact ih5 _ _ _ _ _ _ _ _ _)
      | (with_reducible exact ih6 _ _ _ _)
      | (with_reducible exact fault_Nodes.mono _ _)
      | (with_reducible exact LeO.refl _)
      | (with_reducible exact LeO.none _)
      | (with_reducible refine LeO.ite ?_ ?_)
      | (with_reducible refine LeO.bind ?_ (fun _ => ?_))
      | exact ih0 _ _ _ _
      | exact ih1 _ _ _ _ _ _
      | exact ih2 _ _ _ _
      | exact ih3 _ _ _ _ _
      | exact ih4 _ _ _ _ _ _
      | exact ih5 _ _ _ _ _ _ _ _ _
      | exact ih6 _ _ _ _
      | exact fault_Nodes.mono _ _
      | exact LeO.none _
      | refine LeO.ite ?_ ?_
      | refine LeO.bind ?_ (fun _ => ?_)
    · intro y0 y1 y2 y3 y4 y5
      unfold fault_Unsound.j4
      repeat' first
      | (with_reducible exact ih0 _ _ _ _)
      | (with_reducible exact ih1 _ _ _ _ _ _)
      | (with_reducible exact ih2 _ _ _ _)
      | (with_reducible exact ih3 _ _ _ _ _)
      | (with_reducible exact ih4 _ _ _ _ _ _)
      | (with_reducible exact ih5 _ _ _ _ _ _ _ _ _)
      | (with_reducible exact ih6 _ _ _ _)
      | (with_reducible exact fault_Nodes.mono _ _)
      | (with_reducible exact LeO.refl _)
      | (with_reducible exact LeO.none _)
      | (with_reducible refine LeO.ite ?_ ?_)
      | (with_reducible refine LeO.bind ?_ (fun _ => ?_))
      | exact ih0 _ _ _ _
      | exact ih1 _ _ _ _ _ _
      | exact ih2 _ _ _ _
      | exact ih3 _ _ _ _ _
      | exact ih4 _ _ _ _ _ _
      | exact ih5 _ _ _ _ _ _ _ _ _
      | exact ih6 _ _ _ _
      | exact fault_Nodes.mono _ _
      | exact LeO.none _
      | refine LeO.ite ?_ ?_
      | refine LeO.bind ?_ (fun _ => ?_)
    · intro y0 y1 y2 y3 y4 y5 y6 y7 y8
      unfold fault_Unsound.l3
      repeat' first
      | (with_reducible exact ih0 _ _ _ _)
      | (with_reducible exact ih1 _ _ _ _ _ _)
      | (with_reducible exact ih2 _ _ _ _)
      | (with_reducible exact ih3 _ _ _ _ _)
      | (with_reducible exact ih4 _ _ _ _ _ _)
      | (with_reducible exact ih5 _ _ _ _ _ _ _ _ _)
      | (with_reducible exact ih6 _ _ _ _)
      | (with_reducible exact fault_Nodes.mono _ _)
      | (with_reducible exact LeO.refl _)
      | (with_reducible exact LeO.none _)
      | (with_reducible refine LeO.ite ?_ ?_)
      | (with_reducible refine LeO.bind ?_ (fun _ => ?_))
      | exact ih0 _ _ _ _
      | exact ih1 _ _ _ _ _ _
      | exact ih2 _ _ _ _
      | exact ih3 _ _ _ _ _
      | exact ih4 _ _ _ _ _ _
      | exact ih5 _ _ _ _ _ _ _ _ _
      | exact ih6 _ _ _ _
      | exact fault_Nodes.mono _ _
      | exact LeO.none _
      | refine LeO.ite ?_ ?_
      | refine LeO.bind ?_ (fun _ => ?_)
    · intro y0 y1 y2 y3
      unfold fault_Unsound.l4
      repeat' first
      | (with_reducible exact ih0 _ _ _ _)
      | (with_reducible exact ih1 _ _ _ _ _ _)
      | (with_reducible exact ih2 _ _ _ _)
      | (with_reducible exact ih3 _ _ _ _ _)
      | (with_reducible exact ih4 _ _ _ _ _ _)
      | (with_reducible exact ih5 _ _ _ _ _ _ _ _ _)
      | (with_reducible exact ih6 _ _ _ _)
      | (with_reducible exact fault_Nodes.mono _ _)
      | (with_reducible exact LeO.refl _)
      | (with_reducible exact LeO.none _)
      | (with_reducible refine LeO.ite ?_ ?_)
      | (with_reducible refine LeO.bind ?_ (fun _ => ?_))
      | exact ih0 _ _ _ _
      | exact ih1 _ _ _ _ _ _
      | exact ih2 _ _ _ _
      | exact ih3 _ _ _ _ _
      | exact ih4 _ _ _ _ _ _
      | exact ih5 _ _ _ _ _ _ _ _ _
      | exact ih6 _ _ _ _
      | exact fault_Nodes.mono _ _
      | exact LeO.none _
      | refine LeO.ite ?_ ?_
      | refine LeO.bind ?_ (fun _ => ?_)
theorem fault_Unsound.mono : ∀ a0 a1 a2 k, LeO (fault_Unsound.f k a0 a1 a2) (fault_Unsound.f (k + 1) a0 a1 a2) := by
  intro a0 a1 a2 k
  obtain ⟨ih0, ih1, ih2, ih3, ih4, ih5, ih6⟩ := fault_Unsound.mono_l k
  unfold fault_Unsound.f
  repeat' first
      | (with_reducible exact ih0 _ _ _ _)
      | (with_reducible exact ih1 _ _ _ _ _ _)
      | (with_reducible exact ih2 _ _ _ _)
      | (with_reducible exact ih3 _ _ _ _ _)
      | (with_reducible exact ih4 _ _ _ _ _ _)
      | (with_reducible exact ih5 _ _ _ _ _ _ _ _ _)
      | (with_reducible exact ih6 _ _ _ _)
      | (with_reducible exact fault_Nodes.mono _ _)
      | (with_reducible exact LeO.refl _)
      | (with_reducible exact LeO.none _)
      | (with_reducible refine LeO.ite ?_ ?_)
      | (with_reducible refine LeO.bind ?_ (fun _ => ?_))
      | exact ih0 _ _ _ _
      | exact ih1 _ _ _ _ _ _
      | exact ih2 _ _ _ _
      | exact ih3 _ _ _ _ _
      | exact ih4 _ _ _ _ _ _
      | exact ih5 _ _ _ _ _ _ _ _ _
      | exact ih6 _ _ _ _
      | exact fault_Nodes.mono _ _
      | exact LeO.none _
      | refine LeO.ite ?_ ?_
      | refine LeO.bind ?_ (fun _ => ?_)
set_option maxHeartbeats 8000000 in
set_option maxRecDepth 100000 in
theorem fault_Unsound.calls (k : Nat) (a0 : Int) (A1 : Option Addr) (c1 : Nat) (l1 : List (List Int)) (A2 : Option Addr) (c2 : Nat) (l2 : List (S46)) (r : List Int) (w : World) (hr1 : Kd.C (Kd.slice 3 (Kd.int .i64)) w A1 l1.length l1) (hc1 : l1.length ≤ c1) (hr2 : Kd.C k46 w A2 l2.length l2) (hc2 : l2.length ≤ c2) (h : fault_Unsound.f k a0 l1 l2 = some r) :
    Calls Try.prog 23 #[.int .i64 a0, .slice A1 l1.length c1, .slice A2 l2.length c2] w fun e w' => ∃ v0_ : Value, e = .returned (v0_) ∧ Kd.R (Kd.int .i64) 3 w' w.heap.size (fun _ => True) v0_ r ∧ Below w.heap.size w w' := by
  have HR1 := Aside0.mk hr1
  have HC1 := Aside0.mk hc1
  clear hr1 hc1
  have HR2 := Aside0.mk hr2
  have HC2 := Aside0.mk hc2
  clear hr2 hc2
  have HB := Aside0.mk (Below.refl w.heap.size w)
  have H : (if a0 < 1 then (fault_Unsound.j0 k a0 l1 l2 true) else (fault_Unsound.j0 k a0 l1 l2 (decide (a0 > 24)))) = some r := h
  clear h
  have HC4 := Aside0.mk H
  clear H
  go_enter Try.func23, Try.ntmps23
  go_upto_region 1 with (fail)
  go_cut [23] (fun v23 wc => ∃ (kq : Nat) (x23_3 : Bool), v23 = .bool x23_3 ∧ Aside0 (fault_Unsound.j0 kq a0 l1 l2 x23_3 = some r) ∧ Aside0 (kq ≤ k) ∧ Aside0 (Below w.heap.size w wc))
  case first =>
    have H := HC4.out
    clear HC4
    by_cases c5 : a0 < 1
    · rw [if_pos c5] at H
      have c5b0 : decide (a0 < 1) = true := decide_eq_true c5
      clear c5
      (first | rw [c5b0] | (simp only [i64_w, i32_w]; rw [c5b0]) | skip)
      have H' := Aside0.mk H
      clear H
      go_wp2
      go_meet
      case rel => exact ⟨_, (true), (by first | rfl | (simp; done) | (simp [*]; done)), H', ⟨by first | omega | exact Nat.le_refl _⟩, ⟨by repeat (first | (with_reducible first | exact HB.out | apply below_alloc | apply pw_below_drewN | apply below_drew1) | exact HB.out)⟩⟩
    · rw [if_neg c5] at H
      have c5b0 : decide (a0 < 1) = false := decide_eq_false c5
      clear c5
      (first | rw [c5b0] | (simp only [i64_w, i32_w]; rw [c5b0]) | skip)
      have H' := Aside0.mk H
      clear H
      go_wp2
      go_meet
      case rel => exact ⟨_, (decide (a0 > 24)), (by first | rfl | (simp; done) | (simp [*]; done)), H', ⟨by first | omega | exact Nat.le_refl _⟩, ⟨by repeat (first | (with_reducible first | exact HB.out | apply below_alloc | apply pw_below_drewN | apply below_drew1) | exact HB.out)⟩⟩
  case rest =>
    clear HC4
    try clear c1
    try clear c2
    try clear p2
    try clear c5
    try clear c5b0
    obtain ⟨kq, x23_3, rfl, HA, HJ3, HB⟩ := hcut
    cases kq with
    | zero => exact absurd HA.out (by simp [fault_Unsound.j0])
    | succ kj3 =>
      have H := HA.out
      clear HA
      simp only [fault_Unsound.j0] at H
      by_cases c6 : x23_3 = true
      · subst c6
        have H1 : (some ([] : List Int)) = some r := by rw [if_pos rfl] at H; exact H
        clear H
        have H := H1
        clear H1
        obtain rfl := Option.some.inj H
        go_wp2
        go_ret
        exact ⟨_, by first | rfl | (simp [errW_none, errW_some] <;> rfl) | (simp [*, errW_none, errW_some] <;> rfl), by first | exact Kd.R_nil _ _ _ _ _ | exact Kd.N_nil _ _ _ _ _ | exact Kd.V_nil _ _ _ _ _ | exact Kd.Q_nil _ _ _ _ _ | exact Kd.S_nil _ _ _ _ _, by repeat (first | (with_reducible first | exact HB.out | apply below_alloc | apply pw_below_drewN | apply below_drew1) | exact HB.out)⟩
      · replace c6 := Bool.eq_false_iff.mpr c6
        subst c6
        have H1 : (if 0 ≤ a0 then (if (a0 : Int).toNat ≤ 281474976710656 then ((fault_Nodes.f kj3 l2).bind fun t143 => (fault_Unsound.l0 kj3 a0 l1 (List.replicate (a0 : Int).toNat false) t143 (t143.length : Int) 0)) else (none)) else (none)) = some r := by rw [if_neg (show ¬ (false = true) by decide)] at H; exact H
        clear H
        have H := H1
        clear H1
        by_cases c7 : 0 ≤ a0
        · rw [if_pos c7] at H
          have c7b0 := eq_true c7
          have c7b1 : decide (0 ≤ a0) = true := decide_eq_true c7
          clear c7
          by_cases c8 : (a0 : Int).toNat ≤ 281474976710656
          · rw [if_pos c8] at H
            have c8b0 := eq_true c8
            have c8b1 : decide ((a0 : Int).toNat ≤ 281474976710656) = true := decide_eq_true c8
            clear c8
            obtain ⟨y140, hy140⟩ : ∃ y_ : List Bool, y_ = (List.replicate (a0 : Int).toNat false) := ⟨_, rfl⟩
            replace H : ((fault_Nodes.f kj3 l2).bind fun t143 => (fault_Unsound.l0 kj3 a0 l1 y140 t143 (t143.length : Int) 0)) = some r := by first | (rw [hy140]; with_reducible exact H) | (have H2_ := (Option.bind_some _ _).symm.trans H; rw [hy140]; with_reducible exact H2_) | (have H2_ := (Option.bind_some _ _).symm.trans H; with_reducible exact H2_) | with_reducible exact H | (rw [hy140]; exact H) | exact H
            have Ny140 := Aside0.mk hy140
            clear hy140
            replace H := Option.bind_eq_some_iff.mp H
            obtain ⟨t143, A90, H⟩ := H
            replace H : (fault_Unsound.l0 kj3 a0 l1 y140 t143 (t143.length : Int) 0) = some r := H
            have A9 := Aside0.mk A90
            clear A90
            have H' := Aside0.mk H
            clear H
            go_wp2_with (first | ((with_reducible refine gate_dst (N := 25) rfl ?_); (try (refine gate_guard (by rfl) ?_; dsimp only)); refine Kd.R_make Kd.bool _ 4 rfl (N := 25) rfl 67 _ _ rfl a0 rfl rfl Try.underlying67 (.bool false) 1 info4 rfl (by decide) (by omega) false (ok := fun _ => True) (okp := fun _ => True) rfl (fun _ hk => hk) trivial (of_decide_eq_true (by first | (with_reducible assumption) | assumption)) (Nat.le_trans (Nat.mul_le_mul_right _ (of_decide_eq_true (by first | (with_reducible assumption) | assumption) : a0.toNat ≤ 281474976710656)) (by omega)) (Below.refl _ _) (Nat.le_refl _) ?_; intro v141 w10 ho11 hb hg_ hnew_; clear hg_ hnew_; (first | rw [← Ny140.out] at ho11 | (simp only [Int.reduceToNat] at ho11; rw [← Ny140.out] at ho11)); have n0_ := Aside0.mk (Kd.R_lower ho11 (below_size (by repeat (first | (with_reducible first | exact HB.out | apply below_alloc | apply pw_below_drewN | apply below_drew1) | exact HB.out)))); have n1_ := Aside0.mk (below_step (by repeat (first | (with_reducible first | exact HB.out | apply below_alloc | apply pw_below_drewN | apply below_drew1) | exact HB.out)) hb); clear HB; have HO142 := n0_; have HB := n1_; clear n0_ n1_; clear hb ho11) | ((with_reducible refine gate_callee (f := 16) rfl ?_); refine goesL_ (some 27) rfl rfl Try.func16 (by kernel_rfl) rfl #[.slice A2 l2.length c2] rfl (by (try simp only [List.map_toArray, List.map_cons, List.map_nil]); first | done | rfl | (simp only [List.length_drop, List.length_take]; rfl)) ?_; (with_reducible refine (fault_Nodes.calls kj3 _ _ l2 t143 _ ?side1 ?side2 A9.out).mono ?_); (case side1 => repeat (first | exact (Kd.C_below HR2.out HB.out) | (with_reducible refine Kd.C_alloc ?_ _) | (with_reducible refine Kd.C_drewN ?_ _) | (with_reducible refine Kd.C_drew ?_))); (case side2 => exact HC2.out); rintro e w12 ⟨v144, rfl, ho0, hb⟩; refine ⟨_, rfl, ?_⟩; have n0_ := Aside0.mk (Kd.R_below (by (with_reducible repeat (first | apply Kd.R_alloc | apply Kd.R_drewN | apply Kd.R_drew)); exact HO142.out) hb); have n1_ := Aside0.mk (Kd.R_lower ho0 (below_size (by repeat (first | (with_reducible first | exact HB.out | apply below_alloc | apply pw_below_drewN | apply below_drew1) | exact HB.out)))); have n2_ := Aside0.mk (below_step (by repeat (first | (with_reducible first | exact HB.out | apply below_alloc | apply pw_below_drewN | apply below_drew1) | exact HB.out)) hb); clear HO142; clear HB; have HO142 := n0_; have HO145 := n1_; have HB := n2_; clear n0_ n1_ n2_; (try clear hb); (try clear hb2); (try clear hk); (try clear hi); (try clear ho0); obtain ⟨Ao13, co13, eo13⟩ := Kd.R_slice HO145.out; subst eo13))
            go_loopg [29] kj3 (fun kq v29 w' => ∃ (x7_2 : List Bool) (x29_2 : Int), v29 = .int .i64 x29_2 ∧ Aside0 (fault_Unsound.l0 kq a0 l1 x7_2 t143 (t143.length : Int) x29_2 = some r) ∧ Aside0 (kq ≤ kj3) ∧ Aside0 (Kd.R Kd.bool 4 w' w.heap.size (fun _ => True) v141 x7_2) ∧ Aside0 (Kd.R (Kd.int .i64) 3 w' w.heap.size (fun _ => True) (.slice Ao13 t143.length co13) t143) ∧ Aside0 (Below w.heap.size w w'))
            case atStart => exact ⟨(y140), (0), (by first | rfl | (simp; done) | (simp [*]; done)), H', ⟨Nat.le_refl _⟩, ⟨by (with_reducible repeat (first | apply Kd.R_alloc | apply Kd.R_drewN | apply Kd.R_drew)); exact HO142.out⟩, ⟨by (with_reducible repeat (first | apply Kd.R_alloc | apply Kd.R_drewN | apply Kd.R_drew)); exact HO145.out⟩, ⟨by repeat (first | (with_reducible first | exact HB.out | apply below_alloc | apply pw_below_drewN | apply below_drew1) | exact HB.out)⟩⟩
            case round =>
              clear H'
              try clear c1
              try clear c2
              try clear p2
              try clear c5
              try clear c5b0
              try clear c6
              try clear c7
              try clear c7b0
              try clear c7b1
              try clear c8
              try clear c8b0
              try clear c8b1
              try clear p2
              obtain ⟨x7_2, x29_2, rfl, HA, HK2, HO_7, HO_27, HB⟩ := hrel
              cases gk with
              | zero => exact absurd HA.out (by simp [fault_Unsound.l0])
              | succ k2 =>
                have H := HA.out
                clear HA
                simp only [fault_Unsound.l0] at H
                by_cases c14 : x29_2 < (t143.length : Int)
                · rw [if_pos c14] at H
                  have c14b0 : decide (x29_2 < (t143.length : Int)) = true := decide_eq_true c14
                  clear c14
                  by_cases c15 : 0 ≤ x29_2
                  · rw [if_pos c15] at H
                    have c15b0 : decide (0 ≤ x29_2) = true := decide_eq_true c15
                    clear c15
                    by_cases c16 : x29_2 < (t143.length : Int)
                    · rw [if_pos c16] at H
                      have c16b0 : decide (x29_2 < (t143.length : Int)) = true := decide_eq_true c16
                      clear c16
                      by_cases c17 : (rd t143 x29_2) < a0
                      · rw [if_pos c17] at H
                        have c17b0 : decide ((rd t143 x29_2) < a0) = true := decide_eq_true c17
                        clear c17
                        by_cases c18 : 0 ≤ (rd t143 x29_2)
                        · rw [if_pos c18] at H
                          have c18b0 : decide (0 ≤ (rd t143 x29_2)) = true := decide_eq_true c18
                          clear c18
                          by_cases c19 : (rd t143 x29_2) < (x7_2.length : Int)
                          · rw [if_pos c19] at H
                            have c19b0 : decide ((rd t143 x29_2) < (x7_2.length : Int)) = true := decide_eq_true c19
                            clear c19
                            obtain ⟨y147, hy147⟩ : ∃ y_ : List Bool, y_ = (x7_2.set ((rd t143 x29_2) : Int).toNat true) := ⟨_, rfl⟩
                            replace H : (fault_Unsound.l0 k2 a0 l1 y147 t143 (t143.length : Int) (wrap64 (x29_2 + 1))) = some r := by first | (rw [hy147]; with_reducible exact H) | (have H2_ := (Option.bind_some _ _).symm.trans H; rw [hy147]; with_reducible exact H2_) | (have H2_ := (Option.bind_some _ _).symm.trans H; with_reducible exact H2_) | with_reducible exact H | (rw [hy147]; exact H) | exact H
                            have Ny147 := Aside0.mk hy147
                            clear hy147
                            have H' := Aside0.mk H
                            clear H
                            have p146 : 0 ≤ (x29_2 : Int) := of_decide_eq_true (by first | (with_reducible assumption) | assumption)
                            have q146 : x29_2 < (t143.length : Int) := of_decide_eq_true (by first | (with_reducible assumption) | assumption)
                            obtain ⟨ad146, e146, hx146_0⟩ := Kd.at_int (Kd.R_reads' HO_27.out).2.2 x29_2 p146 q146
                            cases e146
                            replace p146 := eq_true p146
                            replace q146 := eq_true q146
                            have p20 : 0 ≤ ((rd t143 x29_2) : Int) := of_decide_eq_true (by first | (with_reducible assumption) | assumption)
                            have q20 : ((rd t143 x29_2) : Int) < ((x7_2.length : Int) : Int) := of_decide_eq_true (by first | (with_reducible assumption) | assumption)
                            obtain ⟨go20, co20, eo20, gb20, gl20, cl20, HG20⟩ := Kd.R_form HO_7.out (by omega)
                            (first | cases eo20 | (injection eo20 with ea_ en_ ec_; (first | subst ea_ | (injection ea_ with ea_; subst ea_)); subst ec_; clear en_))
                            have GB20 := Aside0.mk gb20
                            have GG20 := Aside0.mk HG20
                            clear gb20 gl20 HG20
                            obtain ⟨hx20_0, hf20_0⟩ := Kd.R_celln false HO_7.out ((rd t143 x29_2) : Int) p20 q20
                            replace p20 := eq_true p20
                            replace q20 := eq_true q20
                            have HP21 := Kd.R_putg HO_7.out ((rd t143 x29_2) : Int) true
                            go_wp2_with (first | ((with_reducible refine gate_store (t := 4) (p := 38) rfl ?_); refine store_event (t := 4) (p := 38) (v := ?vo_w22) (w1 := (wr.setCell ⟨go20, ((rd t143 x29_2) : Int).toNat, none⟩ (.bool true))) ?hg ?ho ?hn ?hr ?_; (case ho => rfl); (case hg => rfl); (case hn => rfl); (case hr => first | (go_simp; done) | (go_simp; rfl)); intro w22 hw; have hg : wr.grownBy w22 (some go20) := (by rw [hw]; exact HP21.2); have hp_ : Kd.R Kd.bool 4 w22 w.heap.size (fun _ => True) (.slice (some ⟨go20, 0, none⟩) x7_2.length co20) y147 := (by rw [hw, Ny147.out]; exact HP21.1); clear HP21; have n0_ := Aside0.mk (hp_); have n1_ := Aside0.mk (Kd.R_over' (v := (.slice (some ⟨go20, 0, none⟩) x7_2.length co20)) (by (with_reducible repeat (first | apply Kd.R_alloc | apply Kd.R_drewN | apply Kd.R_drew)); exact HO_27.out) (Kd.R_typed HO_7.out) (by decide) hg); have n2_ := Aside0.mk ((by rw [hw]; exact below_set (HB.out) GB20.out : Below w.heap.size w w22)); clear HO_7; clear HO_27; clear HB; have HO_7 := n0_; have HO_27 := n1_; have HB := n2_; clear n0_ n1_ n2_; clear hg hw hp_))
                            go_roundg k2
                            case measure => have := HJ3.out; have := HK2.out; omega
                            case rel => exact ⟨(y147), (wrap64 (x29_2 + 1)), (by first | rfl | (simp; done) | (simp [*]; done)), H', ⟨by have := HJ3.out; have := HK2.out; omega⟩, ⟨by (with_reducible repeat (first | apply Kd.R_alloc | apply Kd.R_drewN | apply Kd.R_drew)); exact HO_7.out⟩, ⟨by (with_reducible repeat (first | apply Kd.R_alloc | apply Kd.R_drewN | apply Kd.R_drew)); exact HO_27.out⟩, ⟨by repeat (first | (with_reducible first | exact HB.out | apply below_alloc | apply pw_below_drewN | apply below_drew1) | exact HB.out)⟩⟩
                          · rw [if_neg c19] at H
                            exact absurd H (by simp)
                        · rw [if_neg c18] at H
                          exact absurd H (by simp)
                      · rw [if_neg c17] at H
                        have c17b0 : decide ((rd t143 x29_2) < a0) = false := decide_eq_false c17
                        clear c17
                        have H' := Aside0.mk H
                        clear H
                        have p146 : 0 ≤ (x29_2 : Int) := of_decide_eq_true (by first | (with_reducible assumption) | assumption)
                        have q146 : x29_2 < (t143.length : Int) := of_decide_eq_true (by first | (with_reducible assumption) | assumption)
                        obtain ⟨ad146, e146, hx146_0⟩ := Kd.at_int (Kd.R_reads' HO_27.out).2.2 x29_2 p146 q146
                        cases e146
                        replace p146 := eq_true p146
                        replace q146 := eq_true q146
                        go_wp2
                        go_roundg k2
                        case measure => have := HJ3.out; have := HK2.out; omega
                        case rel => exact ⟨(x7_2), (wrap64 (x29_2 + 1)), (by first | rfl | (simp; done) | (simp [*]; done)), H', ⟨by have := HJ3.out; have := HK2.out; omega⟩, ⟨by (with_reducible repeat (first | apply Kd.R_alloc | apply Kd.R_drewN | apply Kd.R_drew)); exact HO_7.out⟩, ⟨by (with_reducible repeat (first | apply Kd.R_alloc | apply Kd.R_drewN | apply Kd.R_drew)); exact HO_27.out⟩, ⟨by repeat (first | (with_reducible first | exact HB.out | apply below_alloc | apply pw_below_drewN | apply below_drew1) | exact HB.out)⟩⟩
                    · rw [if_neg c16] at H
                      exact absurd H (by simp)
                  · rw [if_neg c15] at H
                    exact absurd H (by simp)
                · rw [if_neg c14] at H
                  have c14b0 : decide (x29_2 < (t143.length : Int)) = false := decide_eq_false c14
                  clear c14
                  have H' := Aside0.mk H
                  clear H
                  go_wp2
                  go_loopg [10] k2 (fun kq v10 w' => ∃ (x7_3 : List Bool) (x10_3 : Bool), v10 = .bool x10_3 ∧ Aside0 (fault_Unsound.l1 kq a0 l1 x7_3 x10_3 = some r) ∧ Aside0 (kq ≤ k2) ∧ Aside0 (Kd.R Kd.bool 4 w' w.heap.size (fun _ => True) v141 x7_3) ∧ Aside0 (Below w.heap.size w w'))
                  case atStart => exact ⟨(x7_2), (true), (by first | rfl | (simp; done) | (simp [*]; done)), H', ⟨Nat.le_refl _⟩, ⟨by (with_reducible repeat (first | apply Kd.R_alloc | apply Kd.R_drewN | apply Kd.R_drew)); exact HO_7.out⟩, ⟨by repeat (first | (with_reducible first | exact HB.out | apply below_alloc | apply pw_below_drewN | apply below_drew1) | exact HB.out)⟩⟩
                  case round =>
                    clear H'
                    try clear c1
                    try clear p1
                    try clear q1
                    try clear hx1
                    try clear c2
                    try clear p2
                    try clear q2
                    try clear hx2
                    try clear c5
                    try clear c5b0
                    try clear c6
                    try clear p6
                    try clear c7
                    try clear c7b0
                    try clear c7b1
                    try clear c8
                    try clear c8b0
                    try clear c8b1
                    try clear c14
                    try clear c14b0
                    try clear p14
                    try clear q14
                    try clear hx14
                    try clear c15
                    try clear c15b0
                    try clear c16
                    try clear c16b0
                    try clear c17
                    try clear c17b0
                    try clear c18
                    try clear c18b0
                    try clear c19
                    try clear c19b0
                    try clear p20
                    try clear q20
                    try clear hx20
                    try clear hf20
                    try clear hx146_0
                    try clear hx20_0
                    try clear p146
                    try clear p2
                    try clear p20
                    try clear q146
                    try clear q20
                    obtain ⟨x7_3, x10_3, rfl, HA, HK3, HO_7, HB⟩ := hrel
                    cases gk with
                    | zero => exact absurd HA.out (by simp [fault_Unsound.l1])
                    | succ k3 =>
                      have H := HA.out
                      clear HA
                      simp only [fault_Unsound.l1] at H
                      by_cases c23 : x10_3 = true
                      · subst c23
                        have H1 : (fault_Unsound.l2 k3 a0 l1 x7_3 false 0) = some r := by rw [if_pos rfl] at H; exact H
                        clear H
                        have H := H1
                        clear H1
                        have H' := Aside0.mk H
                        clear H
                        go_wp2
                        go_loopg [10, 11] k3 (fun kq v10 v11 w' => ∃ (x7_4 : List Bool) (x10_4 : Bool) (x11_4 : Int), v10 = .bool x10_4 ∧ v11 = .int .i64 x11_4 ∧ Aside0 (fault_Unsound.l2 kq a0 l1 x7_4 x10_4 x11_4 = some r) ∧ Aside0 (kq ≤ k3) ∧ Aside0 (Kd.R Kd.bool 4 w' w.heap.size (fun _ => True) v141 x7_4) ∧ Aside0 (Below w.heap.size w w'))
                        case atStart => exact ⟨(x7_3), (false), (0), (by first | rfl | (simp; done) | (simp [*]; done)), (by first | rfl | (simp; done) | (simp [*]; done)), H', ⟨Nat.le_refl _⟩, ⟨by (with_reducible repeat (first | apply Kd.R_alloc | apply Kd.R_drewN | apply Kd.R_drew)); exact HO_7.out⟩, ⟨by repeat (first | (with_reducible first | exact HB.out | apply below_alloc | apply pw_below_drewN | apply below_drew1) | exact HB.out)⟩⟩
                        case round =>
                          clear H'
                          try clear c1
                          try clear p1
                          try clear q1
                          try clear hx1
                          try clear c2
                          try clear p2
                          try clear q2
                          try clear hx2
                          try clear c5
                          try clear c5b0
                          try clear c6
                          try clear p6
                          try clear c7
                          try clear c7b0
                          try clear c7b1
                          try clear c8
                          try clear c8b0
                          try clear c8b1
                          try clear c14
                          try clear c14b0
                          try clear p14
                          try clear q14
                          try clear hx14
                          try clear c15
                          try clear c15b0
                          try clear c16
                          try clear c16b0
                          try clear c17
                          try clear c17b0
                          try clear c18
                          try clear c18b0
                          try clear c19
                          try clear c19b0
                          try clear p20
                          try clear q20
                          try clear hx20
                          try clear hf20
                          try clear c23
                          try clear hx146_0
                          try clear hx20_0
                          try clear p1
                          try clear p14
                          try clear p146
                          try clear p2
                          try clear p20
                          try clear p6
                          try clear q1
                          try clear q14
                          try clear q146
                          try clear q2
                          try clear q20
                          obtain ⟨x7_4, x10_4, x11_4, rfl, rfl, HA, HK4, HO_7, HB⟩ := hrel
                          cases gk with
                          | zero => exact absurd HA.out (by simp [fault_Unsound.l2])
                          | succ k4 =>
                            have H := HA.out
                            clear HA
                            simp only [fault_Unsound.l2] at H
                            have HC24 := Aside0.mk H
                            clear H
                            go_upto_region 14 with (fail)
                            go_cut [49] (fun v49 wc => ∃ (kq : Nat) (x49_23 : Bool), v49 = .bool x49_23 ∧ Aside0 (fault_Unsound.j4 kq a0 l1 x7_4 x10_4 x11_4 x49_23 = some r) ∧ Aside0 (kq ≤ k4) ∧ Aside0 (Kd.R Kd.bool 4 wc w.heap.size (fun _ => True) v141 x7_4) ∧ Aside0 (Below w.heap.size w wc))
                            case first =>
                              have H := HC24.out
                              clear HC24
                              by_cases c25 : x11_4 < a0
                              · rw [if_pos c25] at H
                                have c25b0 : decide (x11_4 < a0) = true := decide_eq_true c25
                                clear c25
                                (first | rw [c25b0] | (simp only [i64_w, i32_w]; rw [c25b0]) | skip)
                                have H' := Aside0.mk H
                                clear H
                                go_wp2
                                go_meet
                                case rel => exact ⟨_, (decide (x11_4 < (l1.length : Int))), (by first | rfl | (simp; done) | (simp [*]; done)), H', ⟨by have := HJ3.out; have := HK2.out; have := HK3.out; have := HK4.out; first | omega | exact Nat.le_refl _⟩, ⟨by (with_reducible repeat (first | apply Kd.R_alloc | apply Kd.R_drewN | apply Kd.R_drew)); exact HO_7.out⟩, ⟨by repeat (first | (with_reducible first | exact HB.out | apply below_alloc | apply pw_below_drewN | apply below_drew1) | exact HB.out)⟩⟩
                              · rw [if_neg c25] at H
                                have c25b0 : decide (x11_4 < a0) = false := decide_eq_false c25
                                clear c25
                                (first | rw [c25b0] | (simp only [i64_w, i32_w]; rw [c25b0]) | skip)
                                have H' := Aside0.mk H
                                clear H
                                go_wp2
                                go_meet
                                case rel => exact ⟨_, (false), (by first | rfl | (simp; done) | (simp [*]; done)), H', ⟨by have := HJ3.out; have := HK2.out; have := HK3.out; have := HK4.out; first | omega | exact Nat.le_refl _⟩, ⟨by (with_reducible repeat (first | apply Kd.R_alloc | apply Kd.R_drewN | apply Kd.R_drew)); exact HO_7.out⟩, ⟨by repeat (first | (with_reducible first | exact HB.out | apply below_alloc | apply pw_below_drewN | apply below_drew1) | exact HB.out)⟩⟩
                            case rest =>
                              clear HC24
                              try clear c1
                              try clear p1
                              try clear q1
                              try clear hx1
                              try clear c2
                              try clear p2
                              try clear q2
                              try clear hx2
                              try clear c5
                              try clear c5b0
                              try clear c6
                              try clear p6
                              try clear c7
                              try clear c7b0
                              try clear c7b1
                              try clear c8
                              try clear c8b0
                              try clear c8b1
                              try clear c14
                              try clear c14b0
                              try clear p14
                              try clear q14
                              try clear hx14
                              try clear c15
                              try clear c15b0
                              try clear c16
                              try clear c16b0
                              try clear c17
                              try clear c17b0
                              try clear c18
                              try clear c18b0
                              try clear c19
                              try clear c19b0
                              try clear p20
                              try clear q20
                              try clear hx20
                              try clear hf20
                              try clear c23
                              try clear c25
                              try clear c25b0
                              try clear hx146_0
                              try clear hx20_0
                              try clear p1
                              try clear p14
                              try clear p146
                              try clear p2
                              try clear p20
                              try clear p6
                              try clear q1
                              try clear q14
                              try clear q146
                              try clear q2
                              try clear q20
                              obtain ⟨kq, x49_23, rfl, HA, HJ23, HO_7, HB⟩ := hcut
                              cases kq with
                              | zero => exact absurd HA.out (by simp [fault_Unsound.j4])
                              | succ kj23 =>
                                have H := HA.out
                                clear HA
                                simp only [fault_Unsound.j4] at H
                                by_cases c26 : x49_23 = true
                                · subst c26
                                  have H1 : (if 0 ≤ x11_4 then (if x11_4 < (l1.length : Int) then (fault_Unsound.l3 kj23 a0 l1 x7_4 x10_4 x11_4 0 (rd_L4 l1 x11_4) ((rd_L4 l1 x11_4).length : Int) 0) else (none)) else (none)) = some r := by rw [if_pos rfl] at H; exact H
                                  clear H
                                  have H := H1
                                  clear H1
                                  by_cases c27 : 0 ≤ x11_4
                                  · rw [if_pos c27] at H
                                    have c27b0 : decide (0 ≤ x11_4) = true := decide_eq_true c27
                                    clear c27
                                    by_cases c28 : x11_4 < (l1.length : Int)
                                    · rw [if_pos c28] at H
                                      have c28b0 : decide (x11_4 < (l1.length : Int)) = true := decide_eq_true c28
                                      clear c28
                                      have H' := Aside0.mk H
                                      clear H
                                      have p148 : 0 ≤ (x11_4 : Int) := of_decide_eq_true (by first | (with_reducible assumption) | assumption)
                                      have q148 : x11_4 < (l1.length : Int) := of_decide_eq_true (by first | (with_reducible assumption) | assumption)
                                      obtain ⟨ad148, A148_0, c148_0, e148, hx148_0, hl148_0, hi148_0⟩ := at_L4 HR1.out x11_4 p148 q148
                                      cases e148
                                      replace hx148_0 := (HB.out.cell (World.block_lt_of_cell? w _ hx148_0)).trans hx148_0
                                      have HR148_0 := Aside0.mk hi148_0
                                      have HC148_0 := Aside0.mk hl148_0
                                      clear hi148_0 hl148_0
                                      replace p148 := eq_true p148
                                      replace q148 := eq_true q148
                                      go_wp2
                                      go_loopg [12, 57] kj23 (fun kq v12 v57 w' => ∃ (x12_6 : Int) (x57_6 : Int), v12 = .int .i64 x12_6 ∧ v57 = .int .i64 x57_6 ∧ Aside0 (fault_Unsound.l3 kq a0 l1 x7_4 x10_4 x11_4 x12_6 (rd_L4 l1 x11_4) ((rd_L4 l1 x11_4).length : Int) x57_6 = some r) ∧ Aside0 (kq ≤ kj23) ∧ Aside0 (Kd.R Kd.bool 4 w' w.heap.size (fun _ => True) v141 x7_4) ∧ Aside0 (Below w.heap.size w w'))
                                      case atStart => exact ⟨(0), (0), (by first | rfl | (simp; done) | (simp [*]; done)), (by first | rfl | (simp; done) | (simp [*]; done)), H', ⟨Nat.le_refl _⟩, ⟨by (with_reducible repeat (first | apply Kd.R_alloc | apply Kd.R_drewN | apply Kd.R_drew)); exact HO_7.out⟩, ⟨by repeat (first | (with_reducible first | exact HB.out | apply below_alloc | apply pw_below_drewN | apply below_drew1) | exact HB.out)⟩⟩
                                      case round =>
                                        clear H'
                                        try clear c1
                                        try clear p1
                                        try clear q1
                                        try clear hx1
                                        try clear c2
                                        try clear p2
                                        try clear q2
                                        try clear hx2
                                        try clear c5
                                        try clear c5b0
                                        try clear c6
                                        try clear p6
                                        try clear c7
                                        try clear c7b0
                                        try clear c7b1
                                        try clear c8
                                        try clear c8b0
                                        try clear c8b1
                                        try clear c14
                                        try clear c14b0
                                        try clear p14
                                        try clear q14
                                        try clear hx14
                                        try clear c15
                                        try clear c15b0
                                        try clear c16
                                        try clear c16b0
                                        try clear c17
                                        try clear c17b0
                                        try clear c18
                                        try clear c18b0
                                        try clear c19
                                        try clear c19b0
                                        try clear p20
                                        try clear q20
                                        try clear hx20
                                        try clear hf20
                                        try clear c23
                                        try clear c25
                                        try clear c25b0
                                        try clear c26
                                        try clear c27
                                        try clear c27b0
                                        try clear c28
                                        try clear c28b0
                                        try clear hx146_0
                                        try clear hx148_0
                                        try clear hx20_0
                                        try clear p1
                                        try clear p14
                                        try clear p146
                                        try clear p148
                                        try clear p2
                                        try clear p20
                                        try clear p6
                                        try clear q1
                                        try clear q14
                                        try clear q146
                                        try clear q148
                                        try clear q2
                                        try clear q20
                                        obtain ⟨x12_6, x57_6, rfl, rfl, HA, HK6, HO_7, HB⟩ := hrel
                                        cases gk with
                                        | zero => exact absurd HA.out (by simp [fault_Unsound.l3])
                                        | succ k6 =>
                                          have H := HA.out
                                          clear HA
                                          simp only [fault_Unsound.l3] at H
                                          by_cases c29 : x57_6 < ((rd_L4 l1 x11_4).length : Int)
                                          · rw [if_pos c29] at H
                                            have c29b0 : decide (x57_6 < ((rd_L4 l1 x11_4).length : Int)) = true := decide_eq_true c29
                                            clear c29
                                            by_cases c30 : 0 ≤ x57_6
                                            · rw [if_pos c30] at H
                                              have c30b0 : decide (0 ≤ x57_6) = true := decide_eq_true c30
                                              clear c30
                                              by_cases c31 : x57_6 < ((rd_L4 l1 x11_4).length : Int)
                                              · rw [if_pos c31] at H
                                                have c31b0 : decide (x57_6 < ((rd_L4 l1 x11_4).length : Int)) = true := decide_eq_true c31
                                                clear c31
                                                by_cases c32 : (rd (rd_L4 l1 x11_4) x57_6) < 0
                                                · rw [if_pos c32] at H
                                                  have c32b0 : decide ((rd (rd_L4 l1 x11_4) x57_6) < 0) = true := decide_eq_true c32
                                                  clear c32
                                                  have H' := Aside0.mk H
                                                  clear H
                                                  have p149 : 0 ≤ (x57_6 : Int) := of_decide_eq_true (by first | (with_reducible assumption) | assumption)
                                                  have q149 : x57_6 < ((rd_L4 l1 x11_4).length : Int) := of_decide_eq_true (by first | (with_reducible assumption) | assumption)
                                                  obtain ⟨ad149, e149, hx149_0⟩ := Kd.at_int HR148_0.out x57_6 p149 q149
                                                  cases e149
                                                  replace hx149_0 := (HB.out.cell (World.block_lt_of_cell? w _ hx149_0)).trans hx149_0
                                                  replace p149 := eq_true p149
                                                  replace q149 := eq_true q149
                                                  go_wp2
                                                  go_roundg k6
                                                  case measure => have := HJ3.out; have := HK2.out; have := HK3.out; have := HK4.out; have := HJ23.out; have := HK6.out; omega
                                                  case rel => exact ⟨(wrap64 (x12_6 + 1)), (wrap64 (x57_6 + 1)), (by first | rfl | (simp; done) | (simp [*]; done)), (by first | rfl | (simp; done) | (simp [*]; done)), H', ⟨by have := HJ3.out; have := HK2.out; have := HK3.out; have := HK4.out; have := HJ23.out; have := HK6.out; omega⟩, ⟨by (with_reducible repeat (first | apply Kd.R_alloc | apply Kd.R_drewN | apply Kd.R_drew)); exact HO_7.out⟩, ⟨by repeat (first | (with_reducible first | exact HB.out | apply below_alloc | apply pw_below_drewN | apply below_drew1) | exact HB.out)⟩⟩
                                                · rw [if_neg c32] at H
                                                  have c32b0 : decide ((rd (rd_L4 l1 x11_4) x57_6) < 0) = false := decide_eq_false c32
                                                  clear c32
                                                  by_cases c33 : (rd (rd_L4 l1 x11_4) x57_6) ≥ a0
                                                  · rw [if_pos c33] at H
                                                    have c33b0 : decide (a0 ≤ (rd (rd_L4 l1 x11_4) x57_6)) = true := decide_eq_true c33
                                                    clear c33
                                                    have H' := Aside0.mk H
                                                    clear H
                                                    have p149 : 0 ≤ (x57_6 : Int) := of_decide_eq_true (by first | (with_reducible assumption) | assumption)
                                                    have q149 : x57_6 < ((rd_L4 l1 x11_4).length : Int) := of_decide_eq_true (by first | (with_reducible assumption) | assumption)
                                                    obtain ⟨ad149, e149, hx149_0⟩ := Kd.at_int HR148_0.out x57_6 p149 q149
                                                    cases e149
                                                    replace hx149_0 := (HB.out.cell (World.block_lt_of_cell? w _ hx149_0)).trans hx149_0
                                                    replace p149 := eq_true p149
                                                    replace q149 := eq_true q149
                                                    go_wp2
                                                    go_roundg k6
                                                    case measure => have := HJ3.out; have := HK2.out; have := HK3.out; have := HK4.out; have := HJ23.out; have := HK6.out; omega
                                                    case rel => exact ⟨(wrap64 (x12_6 + 1)), (wrap64 (x57_6 + 1)), (by first | rfl | (simp; done) | (simp [*]; done)), (by first | rfl | (simp; done) | (simp [*]; done)), H', ⟨by have := HJ3.out; have := HK2.out; have := HK3.out; have := HK4.out; have := HJ23.out; have := HK6.out; omega⟩, ⟨by (with_reducible repeat (first | apply Kd.R_alloc | apply Kd.R_drewN | apply Kd.R_drew)); exact HO_7.out⟩, ⟨by repeat (first | (with_reducible first | exact HB.out | apply below_alloc | apply pw_below_drewN | apply below_drew1) | exact HB.out)⟩⟩
                                                  · rw [if_neg c33] at H
                                                    have c33b0 : decide (a0 ≤ (rd (rd_L4 l1 x11_4) x57_6)) = false := decide_eq_false c33
                                                    clear c33
                                                    by_cases c34 : 0 ≤ (rd (rd_L4 l1 x11_4) x57_6)
                                                    · rw [if_pos c34] at H
                                                      have c34b0 : decide (0 ≤ (rd (rd_L4 l1 x11_4) x57_6)) = true := decide_eq_true c34
                                                      clear c34
                                                      by_cases c35 : (rd (rd_L4 l1 x11_4) x57_6) < (x7_4.length : Int)
                                                      · rw [if_pos c35] at H
                                                        have c35b0 : decide ((rd (rd_L4 l1 x11_4) x57_6) < (x7_4.length : Int)) = true := decide_eq_true c35
                                                        clear c35
                                                        obtain ⟨bq36, hbq36⟩ : ∃ b_ : Bool, b_ = (rdOf false x7_4 (rd (rd_L4 l1 x11_4) x57_6)) := ⟨_, rfl⟩
                                                        replace H : (if bq36 = true then (fault_Unsound.l3 k6 a0 l1 x7_4 x10_4 x11_4 (wrap64 (x12_6 + 1)) (rd_L4 l1 x11_4) ((rd_L4 l1 x11_4).length : Int) (wrap64 (x57_6 + 1))) else (fault_Unsound.l3 k6 a0 l1 x7_4 x10_4 x11_4 x12_6 (rd_L4 l1 x11_4) ((rd_L4 l1 x11_4).length : Int) (wrap64 (x57_6 + 1)))) = some r := by rw [← hbq36] at H; exact H
                                                        have Nbq36 := Aside0.mk hbq36
                                                        clear hbq36
                                                        by_cases c37 : bq36 = true
                                                        · subst c37
                                                          have H1 : (fault_Unsound.l3 k6 a0 l1 x7_4 x10_4 x11_4 (wrap64 (x12_6 + 1)) (rd_L4 l1 x11_4) ((rd_L4 l1 x11_4).length : Int) (wrap64 (x57_6 + 1))) = some r := by rw [if_pos rfl] at H; exact H
                                                          clear H
                                                          have H := H1
                                                          clear H1
                                                          have H' := Aside0.mk H
                                                          clear H
                                                          have p149 : 0 ≤ (x57_6 : Int) := of_decide_eq_true (by first | (with_reducible assumption) | assumption)
                                                          have q149 : x57_6 < ((rd_L4 l1 x11_4).length : Int) := of_decide_eq_true (by first | (with_reducible assumption) | assumption)
                                                          obtain ⟨ad149, e149, hx149_0⟩ := Kd.at_int HR148_0.out x57_6 p149 q149
                                                          cases e149
                                                          replace hx149_0 := (HB.out.cell (World.block_lt_of_cell? w _ hx149_0)).trans hx149_0
                                                          replace p149 := eq_true p149
                                                          replace q149 := eq_true q149
                                                          obtain ⟨Ao38, co38, eo38⟩ := Kd.R_slice HO_7.out
                                                          subst eo38
                                                          have p150 : 0 ≤ ((rd (rd_L4 l1 x11_4) x57_6) : Int) := of_decide_eq_true (by first | (with_reducible assumption) | assumption)
                                                          have q150 : (rd (rd_L4 l1 x11_4) x57_6) < (x7_4.length : Int) := of_decide_eq_true (by first | (with_reducible assumption) | assumption)
                                                          obtain ⟨ad150, e150, hx150_0⟩ := Kd.at_bool (Kd.R_reads' HO_7.out).2.2 (rd (rd_L4 l1 x11_4) x57_6) p150 q150
                                                          (try rw [← Nbq36.out] at hx150_0)
                                                          cases e150
                                                          replace p150 := eq_true p150
                                                          replace q150 := eq_true q150
                                                          go_wp2
                                                          go_roundg k6
                                                          case measure => have := HJ3.out; have := HK2.out; have := HK3.out; have := HK4.out; have := HJ23.out; have := HK6.out; omega
                                                          case rel => exact ⟨(wrap64 (x12_6 + 1)), (wrap64 (x57_6 + 1)), (by first | rfl | (simp; done) | (simp [*]; done)), (by first | rfl | (simp; done) | (simp [*]; done)), H', ⟨by have := HJ3.out; have := HK2.out; have := HK3.out; have := HK4.out; have := HJ23.out; have := HK6.out; omega⟩, ⟨by (with_reducible repeat (first | apply Kd.R_alloc | apply Kd.R_drewN | apply Kd.R_drew)); exact HO_7.out⟩, ⟨by repeat (first | (with_reducible first | exact HB.out | apply below_alloc | apply pw_below_drewN | apply below_drew1) | exact HB.out)⟩⟩
                                                        · replace c37 := Bool.eq_false_iff.mpr c37
                                                          subst c37
                                                          have H1 : (fault_Unsound.l3 k6 a0 l1 x7_4 x10_4 x11_4 x12_6 (rd_L4 l1 x11_4) ((rd_L4 l1 x11_4).length : Int) (wrap64 (x57_6 + 1))) = some r := by rw [if_neg (show ¬ (false = true) by decide)] at H; exact H
                                                          clear H
                                                          have H := H1
                                                          clear H1
                                                          have H' := Aside0.mk H
                                                          clear H
                                                          have p149 : 0 ≤ (x57_6 : Int) := of_decide_eq_true (by first | (with_reducible assumption) | assumption)
                                                          have q149 : x57_6 < ((rd_L4 l1 x11_4).length : Int) := of_decide_eq_true (by first | (with_reducible assumption) | assumption)
                                                          obtain ⟨ad149, e149, hx149_0⟩ := Kd.at_int HR148_0.out x57_6 p149 q149
                                                          cases e149
                                                          replace hx149_0 := (HB.out.cell (World.block_lt_of_cell? w _ hx149_0)).trans hx149_0
                                                          replace p149 := eq_true p149
                                                          replace q149 := eq_true q149
                                                          obtain ⟨Ao39, co39, eo39⟩ := Kd.R_slice HO_7.out
                                                          subst eo39
                                                          have p150 : 0 ≤ ((rd (rd_L4 l1 x11_4) x57_6) : Int) := of_decide_eq_true (by first | (with_reducible assumption) | assumption)
                                                          have q150 : (rd (rd_L4 l1 x11_4) x57_6) < (x7_4.length : Int) := of_decide_eq_true (by first | (with_reducible assumption) | assumption)
                                                          obtain ⟨ad150, e150, hx150_0⟩ := Kd.at_bool (Kd.R_reads' HO_7.out).2.2 (rd (rd_L4 l1 x11_4) x57_6) p150 q150
                                                          (try rw [← Nbq36.out] at hx150_0)
                                                          cases e150
                                                          replace p150 := eq_true p150
                                                          replace q150 := eq_true q150
                                                          go_wp2
                                                          go_roundg k6
                                                          case measure => have := HJ3.out; have := HK2.out; have := HK3.out; have := HK4.out; have := HJ23.out; have := HK6.out; omega
                                                          case rel => exact ⟨(x12_6), (wrap64 (x57_6 + 1)), (by first | rfl | (simp; done) | (simp [*]; done)), (by first | rfl | (simp; done) | (simp [*]; done)), H', ⟨by have := HJ3.out; have := HK2.out; have := HK3.out; have := HK4.out; have := HJ23.out; have := HK6.out; omega⟩, ⟨by (with_reducible repeat (first | apply Kd.R_alloc | apply Kd.R_drewN | apply Kd.R_drew)); exact HO_7.out⟩, ⟨by repeat (first | (with_reducible first | exact HB.out | apply below_alloc | apply pw_below_drewN | apply below_drew1) | exact HB.out)⟩⟩
                                                      · rw [if_neg c35] at H
                                                        exact absurd H (by simp)
                                                    · rw [if_neg c34] at H
                                                      exact absurd H (by simp)
                                              · rw [if_neg c31] at H
                                                exact absurd H (by simp)
                                            · rw [if_neg c30] at H
                                              exact absurd H (by simp)
                                          · rw [if_neg c29] at H
                                            have c29b0 : decide (x57_6 < ((rd_L4 l1 x11_4).length : Int)) = false := decide_eq_false c29
                                            clear c29
                                            by_cases c40 : 0 ≤ x11_4
                                            · rw [if_pos c40] at H
                                              have c40b0 : decide (0 ≤ x11_4) = true := decide_eq_true c40
                                              clear c40
                                              by_cases c41 : x11_4 < (x7_4.length : Int)
                                              · rw [if_pos c41] at H
                                                have c41b0 : decide (x11_4 < (x7_4.length : Int)) = true := decide_eq_true c41
                                                clear c41
                                                obtain ⟨bq42, hbq42⟩ : ∃ b_ : Bool, b_ = (rdOf false x7_4 x11_4) := ⟨_, rfl⟩
                                                replace H : (if bq42 = true then (fault_Unsound.l2 k6 a0 l1 x7_4 x10_4 (wrap64 (x11_4 + 1))) else (if x12_6 > 0 then (if x11_4 < (l1.length : Int) then (if (wrap64 (2 * x12_6)) ≥ ((rd_L4 l1 x11_4).length : Int) then (fault_Unsound.l2 k6 a0 l1 (x7_4.set (x11_4 : Int).toNat true) true (wrap64 (x11_4 + 1))) else (fault_Unsound.l2 k6 a0 l1 x7_4 x10_4 (wrap64 (x11_4 + 1)))) else (none)) else (fault_Unsound.l2 k6 a0 l1 x7_4 x10_4 (wrap64 (x11_4 + 1))))) = some r := by rw [← hbq42] at H; exact H
                                                have Nbq42 := Aside0.mk hbq42
                                                clear hbq42
                                                by_cases c43 : bq42 = true
                                                · subst c43
                                                  have H1 : (fault_Unsound.l2 k6 a0 l1 x7_4 x10_4 (wrap64 (x11_4 + 1))) = some r := by rw [if_pos rfl] at H; exact H
                                                  clear H
                                                  have H := H1
                                                  clear H1
                                                  have H' := Aside0.mk H
                                                  clear H
                                                  obtain ⟨Ao44, co44, eo44⟩ := Kd.R_slice HO_7.out
                                                  subst eo44
                                                  have p151 : 0 ≤ (x11_4 : Int) := of_decide_eq_true (by first | (with_reducible assumption) | assumption)
                                                  have q151 : x11_4 < (x7_4.length : Int) := of_decide_eq_true (by first | (with_reducible assumption) | assumption)
                                                  obtain ⟨ad151, e151, hx151_0⟩ := Kd.at_bool (Kd.R_reads' HO_7.out).2.2 x11_4 p151 q151
                                                  (try rw [← Nbq42.out] at hx151_0)
                                                  cases e151
                                                  replace p151 := eq_true p151
                                                  replace q151 := eq_true q151
                                                  go_wp2
                                                  go_roundg k6
                                                  case measure => have := HJ3.out; have := HK2.out; have := HK3.out; have := HK4.out; have := HJ23.out; have := HK6.out; omega
                                                  case rel => exact ⟨(x7_4), (x10_4), (wrap64 (x11_4 + 1)), (by first | rfl | (simp; done) | (simp [*]; done)), (by first | rfl | (simp; done) | (simp [*]; done)), H', ⟨by have := HJ3.out; have := HK2.out; have := HK3.out; have := HK4.out; have := HJ23.out; have := HK6.out; omega⟩, ⟨by (with_reducible repeat (first | apply Kd.R_alloc | apply Kd.R_drewN | apply Kd.R_drew)); exact HO_7.out⟩, ⟨by repeat (first | (with_reducible first | exact HB.out | apply below_alloc | apply pw_below_drewN | apply below_drew1) | exact HB.out)⟩⟩
                                                · replace c43 := Bool.eq_false_iff.mpr c43
                                                  subst c43
                                                  have H1 : (if x12_6 > 0 then (if x11_4 < (l1.length : Int) then (if (wrap64 (2 * x12_6)) ≥ ((rd_L4 l1 x11_4).length : Int) then (fault_Unsound.l2 k6 a0 l1 (x7_4.set (x11_4 : Int).toNat true) true (wrap64 (x11_4 + 1))) else (fault_Unsound.l2 k6 a0 l1 x7_4 x10_4 (wrap64 (x11_4 + 1)))) else (none)) else (fault_Unsound.l2 k6 a0 l1 x7_4 x10_4 (wrap64 (x11_4 + 1)))) = some r := by rw [if_neg (show ¬ (false = true) by decide)] at H; exact H
                                                  clear H
                                                  have H := H1
                                                  clear H1
                                                  by_cases c45 : x12_6 > 0
                                                  · rw [if_pos c45] at H
                                                    have c45b0 : decide (0 < x12_6) = true := decide_eq_true c45
                                                    clear c45
                                                    by_cases c46 : x11_4 < (l1.length : Int)
                                                    · rw [if_pos c46] at H
                                                      have c46b0 : decide (x11_4 < (l1.length : Int)) = true := decide_eq_true c46
                                                      clear c46
                                                      by_cases c47 : (wrap64 (2 * x12_6)) ≥ ((rd_L4 l1 x11_4).length : Int)
                                                      · rw [if_pos c47] at H
                                                        have c47b0 : decide (((rd_L4 l1 x11_4).length : Int) ≤ (wrap64 (2 * x12_6))) = true := decide_eq_true c47
                                                        clear c47
                                                        obtain ⟨y153, hy153⟩ : ∃ y_ : List Bool, y_ = (x7_4.set (x11_4 : Int).toNat true) := ⟨_, rfl⟩
                                                        replace H : (fault_Unsound.l2 k6 a0 l1 y153 true (wrap64 (x11_4 + 1))) = some r := by first | (rw [hy153]; with_reducible exact H) | (have H2_ := (Option.bind_some _ _).symm.trans H; rw [hy153]; with_reducible exact H2_) | (have H2_ := (Option.bind_some _ _).symm.trans H; with_reducible exact H2_) | with_reducible exact H | (rw [hy153]; exact H) | exact H
                                                        have Ny153 := Aside0.mk hy153
                                                        clear hy153
                                                        have H' := Aside0.mk H
                                                        clear H
                                                        obtain ⟨Ao49, co49, eo49⟩ := Kd.R_slice HO_7.out
                                                        subst eo49
                                                        have p151 : 0 ≤ (x11_4 : Int) := of_decide_eq_true (by first | (with_reducible assumption) | assumption)
                                                        have q151 : x11_4 < (x7_4.length : Int) := of_decide_eq_true (by first | (with_reducible assumption) | assumption)
                                                        obtain ⟨ad151, e151, hx151_0⟩ := Kd.at_bool (Kd.R_reads' HO_7.out).2.2 x11_4 p151 q151
                                                        (try rw [← Nbq42.out] at hx151_0)
                                                        cases e151
                                                        replace p151 := eq_true p151
                                                        replace q151 := eq_true q151
                                                        have p152 : 0 ≤ (x11_4 : Int) := of_decide_eq_true (by first | (with_reducible assumption) | assumption)
                                                        have q152 : x11_4 < (l1.length : Int) := of_decide_eq_true (by first | (with_reducible assumption) | assumption)
                                                        obtain ⟨ad152, A152_0, c152_0, e152, hx152_0, hl152_0, hi152_0⟩ := at_L4 HR1.out x11_4 p152 q152
                                                        obtain rfl : ad148 = ad152 := (by injection e152)
                                                        replace hx152_0 := (HB.out.cell (World.block_lt_of_cell? w _ hx152_0)).trans hx152_0
                                                        have HR152_0 := Aside0.mk hi152_0
                                                        have HC152_0 := Aside0.mk hl152_0
                                                        clear hi152_0 hl152_0
                                                        replace p152 := eq_true p152
                                                        replace q152 := eq_true q152
                                                        have p48 : 0 ≤ (x11_4 : Int) := of_decide_eq_true (by first | (with_reducible assumption) | assumption)
                                                        have q48 : (x11_4 : Int) < ((x7_4.length : Int) : Int) := of_decide_eq_true (by first | (with_reducible assumption) | assumption)
                                                        obtain ⟨go48, co48, eo48, gb48, gl48, cl48, HG48⟩ := Kd.R_form HO_7.out (by omega)
                                                        (first | cases eo48 | (injection eo48 with ea_ en_ ec_; (first | subst ea_ | (injection ea_ with ea_; subst ea_)); subst ec_; clear en_))
                                                        have GB48 := Aside0.mk gb48
                                                        have GG48 := Aside0.mk HG48
                                                        clear gb48 gl48 HG48
                                                        (first | simp only [add_plain] at hx151_0 | skip)
                                                        obtain ⟨hx48_0, hf48_0⟩ := Kd.R_celln false HO_7.out (x11_4 : Int) p48 q48
                                                        replace p48 := eq_true p48
                                                        replace q48 := eq_true q48
                                                        have HP50 := Kd.R_putg HO_7.out (x11_4 : Int) true
                                                        go_wp2_with (first | ((with_reducible refine gate_store (t := 4) (p := 98) rfl ?_); refine store_event (t := 4) (p := 98) (v := ?vo_w51) (w1 := (wr.setCell ⟨go48, (x11_4 : Int).toNat, none⟩ (.bool true))) ?hg ?ho ?hn ?hr ?_; (case ho => rfl); (case hg => rfl); (case hn => rfl); (case hr => first | (go_simp; done) | (go_simp; rfl)); intro w51 hw; have hg : wr.grownBy w51 (some go48) := (by rw [hw]; exact HP50.2); have hp_ : Kd.R Kd.bool 4 w51 w.heap.size (fun _ => True) (.slice (some ⟨go48, 0, none⟩) x7_4.length co49) y153 := (by rw [hw, Ny153.out]; exact HP50.1); clear HP50; have n0_ := Aside0.mk (hp_); have n1_ := Aside0.mk ((by rw [hw]; exact below_set (HB.out) GB48.out : Below w.heap.size w w51)); clear HO_7; clear HB; have HO_7 := n0_; have HB := n1_; clear n0_ n1_; clear hg hw hp_))
                                                        go_roundg k6
                                                        case measure => have := HJ3.out; have := HK2.out; have := HK3.out; have := HK4.out; have := HJ23.out; have := HK6.out; omega
                                                        case rel => exact ⟨(y153), (true), (wrap64 (x11_4 + 1)), (by first | rfl | (simp; done) | (simp [*]; done)), (by first | rfl | (simp; done) | (simp [*]; done)), H', ⟨by have := HJ3.out; have := HK2.out; have := HK3.out; have := HK4.out; have := HJ23.out; have := HK6.out; omega⟩, ⟨by (with_reducible repeat (first | apply Kd.R_alloc | apply Kd.R_drewN | apply Kd.R_drew)); exact HO_7.out⟩, ⟨by repeat (first | (with_reducible first | exact HB.out | apply below_alloc | apply pw_below_drewN | apply below_drew1) | exact HB.out)⟩⟩
                                                      · rw [if_neg c47] at H
                                                        have c47b0 : decide (((rd_L4 l1 x11_4).length : Int) ≤ (wrap64 (2 * x12_6))) = false := decide_eq_false c47
                                                        clear c47
                                                        have H' := Aside0.mk H
                                                        clear H
                                                        obtain ⟨Ao52, co52, eo52⟩ := Kd.R_slice HO_7.out
                                                        subst eo52
                                                        have p151 : 0 ≤ (x11_4 : Int) := of_decide_eq_true (by first | (with_reducible assumption) | assumption)
                                                        have q151 : x11_4 < (x7_4.length : Int) := of_decide_eq_true (by first | (with_reducible assumption) | assumption)
                                                        obtain ⟨ad151, e151, hx151_0⟩ := Kd.at_bool (Kd.R_reads' HO_7.out).2.2 x11_4 p151 q151
                                                        (try rw [← Nbq42.out] at hx151_0)
                                                        cases e151
                                                        replace p151 := eq_true p151
                                                        replace q151 := eq_true q151
                                                        have p152 : 0 ≤ (x11_4 : Int) := of_decide_eq_true (by first | (with_reducible assumption) | assumption)
                                                        have q152 : x11_4 < (l1.length : Int) := of_decide_eq_true (by first | (with_reducible assumption) | assumption)
                                                        obtain ⟨ad152, A152_0, c152_0, e152, hx152_0, hl152_0, hi152_0⟩ := at_L4 HR1.out x11_4 p152 q152
                                                        obtain rfl : ad148 = ad152 := (by injection e152)
                                                        replace hx152_0 := (HB.out.cell (World.block_lt_of_cell? w _ hx152_0)).trans hx152_0
                                                        have HR152_0 := Aside0.mk hi152_0
                                                        have HC152_0 := Aside0.mk hl152_0
                                                        clear hi152_0 hl152_0
                                                        replace p152 := eq_true p152
                                                        replace q152 := eq_true q152
                                                        go_wp2
                                                        go_roundg k6
                                                        case measure => have := HJ3.out; have := HK2.out; have := HK3.out; have := HK4.out; have := HJ23.out; have := HK6.out; omega
                                                        case rel => exact ⟨(x7_4), (x10_4), (wrap64 (x11_4 + 1)), (by first | rfl | (simp; done) | (simp [*]; done)), (by first | rfl | (simp; done) | (simp [*]; done)), H', ⟨by have := HJ3.out; have := HK2.out; have := HK3.out; have := HK4.out; have := HJ23.out; have := HK6.out; omega⟩, ⟨by (with_reducible repeat (first | apply Kd.R_alloc | apply Kd.R_drewN | apply Kd.R_drew)); exact HO_7.out⟩, ⟨by repeat (first | (with_reducible first | exact HB.out | apply below_alloc | apply pw_below_drewN | apply below_drew1) | exact HB.out)⟩⟩
                                                    · rw [if_neg c46] at H
                                                      exact absurd H (by simp)
                                                  · rw [if_neg c45] at H
                                                    have c45b0 : decide (0 < x12_6) = false := decide_eq_false c45
                                                    clear c45
                                                    have H' := Aside0.mk H
                                                    clear H
                                                    obtain ⟨Ao53, co53, eo53⟩ := Kd.R_slice HO_7.out
                                                    subst eo53
                                                    have p151 : 0 ≤ (x11_4 : Int) := of_decide_eq_true (by first | (with_reducible assumption) | assumption)
                                                    have q151 : x11_4 < (x7_4.length : Int) := of_decide_eq_true (by first | (with_reducible assumption) | assumption)
                                                    obtain ⟨ad151, e151, hx151_0⟩ := Kd.at_bool (Kd.R_reads' HO_7.out).2.2 x11_4 p151 q151
                                                    (try rw [← Nbq42.out] at hx151_0)
                                                    cases e151
                                                    replace p151 := eq_true p151
                                                    replace q151 := eq_true q151
                                                    go_wp2
                                                    go_roundg k6
                                                    case measure => have := HJ3.out; have := HK2.out; have := HK3.out; have := HK4.out; have := HJ23.out; have := HK6.out; omega
                                                    case rel => exact ⟨(x7_4), (x10_4), (wrap64 (x11_4 + 1)), (by first | rfl | (simp; done) | (simp [*]; done)), (by first | rfl | (simp; done) | (simp [*]; done)), H', ⟨by have := HJ3.out; have := HK2.out; have := HK3.out; have := HK4.out; have := HJ23.out; have := HK6.out; omega⟩, ⟨by (with_reducible repeat (first | apply Kd.R_alloc | apply Kd.R_drewN | apply Kd.R_drew)); exact HO_7.out⟩, ⟨by repeat (first | (with_reducible first | exact HB.out | apply below_alloc | apply pw_below_drewN | apply below_drew1) | exact HB.out)⟩⟩
                                              · rw [if_neg c41] at H
                                                exact absurd H (by simp)
                                            · rw [if_neg c40] at H
                                              exact absurd H (by simp)
                                    · rw [if_neg c28] at H
                                      exact absurd H (by simp)
                                  · rw [if_neg c27] at H
                                    exact absurd H (by simp)
                                · replace c26 := Bool.eq_false_iff.mpr c26
                                  subst c26
                                  have H1 : (fault_Unsound.l1 kj23 a0 l1 x7_4 x10_4) = some r := by rw [if_neg (show ¬ (false = true) by decide)] at H; exact H
                                  clear H
                                  have H := H1
                                  clear H1
                                  have H' := Aside0.mk H
                                  clear H
                                  go_wp2
                                  go_roundg kj23
                                  case measure => have := HJ3.out; have := HK2.out; have := HK3.out; have := HK4.out; have := HJ23.out; omega
                                  case rel => exact ⟨(x7_4), (x10_4), (by first | rfl | (simp; done) | (simp [*]; done)), H', ⟨by have := HJ3.out; have := HK2.out; have := HK3.out; have := HK4.out; have := HJ23.out; omega⟩, ⟨by (with_reducible repeat (first | apply Kd.R_alloc | apply Kd.R_drewN | apply Kd.R_drew)); exact HO_7.out⟩, ⟨by repeat (first | (with_reducible first | exact HB.out | apply below_alloc | apply pw_below_drewN | apply below_drew1) | exact HB.out)⟩⟩
                      · replace c23 := Bool.eq_false_iff.mpr c23
                        subst c23
                        have H1 : (fault_Unsound.l4 k3 ([] : List Int) x7_3 (x7_3.length : Int) 0) = some r := by rw [if_neg (show ¬ (false = true) by decide)] at H; exact H
                        clear H
                        have H := H1
                        clear H1
                        have H' := Aside0.mk H
                        clear H
                        obtain ⟨Ao54, co54, eo54⟩ := Kd.R_slice HO_7.out
                        subst eo54
                        go_wp2
                        go_loopg [15, 101] k3 (fun kq v15 v101 w' => ∃ (x15_4 : List Int) (x101_4 : Int), v101 = .int .i64 x101_4 ∧ Aside0 (fault_Unsound.l4 kq x15_4 x7_3 (x7_3.length : Int) x101_4 = some r) ∧ Aside0 (kq ≤ k3) ∧ Aside0 (Kd.R (Kd.int .i64) 3 w' w.heap.size (fun _ => True) v15 x15_4) ∧ Aside0 (Kd.R Kd.bool 4 w' w.heap.size (fun _ => True) (.slice Ao54 x7_3.length co54) x7_3) ∧ Aside0 (Below w.heap.size w w'))
                        case atStart => exact ⟨(([] : List Int)), (0), (by first | rfl | (simp; done) | (simp [*]; done)), H', ⟨Nat.le_refl _⟩, ⟨by first | exact Kd.R_nil _ _ _ _ _ | exact Kd.N_nil _ _ _ _ _ | exact Kd.V_nil _ _ _ _ _ | exact Kd.Q_nil _ _ _ _ _ | exact Kd.S_nil _ _ _ _ _⟩, ⟨by (with_reducible repeat (first | apply Kd.R_alloc | apply Kd.R_drewN | apply Kd.R_drew)); exact HO_7.out⟩, ⟨by repeat (first | (with_reducible first | exact HB.out | apply below_alloc | apply pw_below_drewN | apply below_drew1) | exact HB.out)⟩⟩
                        case round =>
                          clear H'
                          try clear c1
                          try clear p1
                          try clear q1
                          try clear hx1
                          try clear c2
                          try clear p2
                          try clear q2
                          try clear hx2
                          try clear c3
                          try clear q3
                          try clear c4
                          try clear p4
                          try clear q4
                          try clear hx4
                          try clear hf4
                          try clear c5
                          try clear c5b0
                          try clear c6
                          try clear p6
                          try clear c7
                          try clear c7b0
                          try clear c7b1
                          try clear c8
                          try clear c8b0
                          try clear c8b1
                          try clear c14
                          try clear c14b0
                          try clear p14
                          try clear q14
                          try clear hx14
                          try clear c15
                          try clear c15b0
                          try clear p15
                          try clear q15
                          try clear hx15
                          try clear c16
                          try clear c16b0
                          try clear c17
                          try clear c17b0
                          try clear c18
                          try clear c18b0
                          try clear c19
                          try clear c19b0
                          try clear p20
                          try clear q20
                          try clear hx20
                          try clear hf20
                          try clear c23
                          try clear c25
                          try clear c25b0
                          try clear c26
                          try clear c27
                          try clear c27b0
                          try clear c28
                          try clear c28b0
                          try clear c29
                          try clear c29b0
                          try clear c30
                          try clear c30b0
                          try clear c31
                          try clear c31b0
                          try clear c32
                          try clear c32b0
                          try clear c33
                          try clear c33b0
                          try clear c34
                          try clear c34b0
                          try clear c35
                          try clear c35b0
                          try clear q36
                          try clear c37
                          try clear c40
                          try clear c40b0
                          try clear c41
                          try clear c41b0
                          try clear q42
                          try clear c43
                          try clear c45
                          try clear c45b0
                          try clear c46
                          try clear c46b0
                          try clear c47
                          try clear c47b0
                          try clear p48
                          try clear q48
                          try clear hx48
                          try clear hf48
                          try clear hx146_0
                          try clear hx148_0
                          try clear hx149_0
                          try clear hx150_0
                          try clear hx151_0
                          try clear hx152_0
                          try clear hx20_0
                          try clear hx48_0
                          try clear p1
                          try clear p14
                          try clear p146
                          try clear p148
                          try clear p149
                          try clear p150
                          try clear p151
                          try clear p152
                          try clear p2
                          try clear p20
                          try clear p48
                          try clear p6
                          try clear q1
                          try clear q14
                          try clear q146
                          try clear q148
                          try clear q149
                          try clear q150
                          try clear q151
                          try clear q152
                          try clear q2
                          try clear q20
                          try clear q48
                          obtain ⟨x15_4, x101_4, rfl, HA, HK4, HO_15, HO_99, HB⟩ := hrel
                          cases gk with
                          | zero => exact absurd HA.out (by simp [fault_Unsound.l4])
                          | succ k4 =>
                            have H := HA.out
                            clear HA
                            simp only [fault_Unsound.l4] at H
                            by_cases c55 : x101_4 < (x7_3.length : Int)
                            · rw [if_pos c55] at H
                              have c55b0 : decide (x101_4 < (x7_3.length : Int)) = true := decide_eq_true c55
                              clear c55
                              by_cases c56 : 0 ≤ x101_4
                              · rw [if_pos c56] at H
                                have c56b0 : decide (0 ≤ x101_4) = true := decide_eq_true c56
                                clear c56
                                by_cases c57 : x101_4 < (x7_3.length : Int)
                                · rw [if_pos c57] at H
                                  have c57b0 : decide (x101_4 < (x7_3.length : Int)) = true := decide_eq_true c57
                                  clear c57
                                  obtain ⟨bq58, hbq58⟩ : ∃ b_ : Bool, b_ = (rdOf false x7_3 x101_4) := ⟨_, rfl⟩
                                  replace H : (if bq58 = true then (if x15_4.length < 17592186044416 then (fault_Unsound.l4 k4 (x15_4 ++ [x101_4]) x7_3 (x7_3.length : Int) (wrap64 (x101_4 + 1))) else (none)) else (fault_Unsound.l4 k4 x15_4 x7_3 (x7_3.length : Int) (wrap64 (x101_4 + 1)))) = some r := by rw [← hbq58] at H; exact H
                                  have Nbq58 := Aside0.mk hbq58
                                  clear hbq58
                                  by_cases c59 : bq58 = true
                                  · subst c59
                                    have H1 : (if x15_4.length < 17592186044416 then (fault_Unsound.l4 k4 (x15_4 ++ [x101_4]) x7_3 (x7_3.length : Int) (wrap64 (x101_4 + 1))) else (none)) = some r := by rw [if_pos rfl] at H; exact H
                                    clear H
                                    have H := H1
                                    clear H1
                                    by_cases c60 : x15_4.length < 17592186044416
                                    · rw [if_pos c60] at H
                                      have LMc60 := Aside0.mk c60
                                      clear c60
                                      obtain ⟨y155, hy155⟩ : ∃ y_ : List Int, y_ = (x15_4 ++ [x101_4]) := ⟨_, rfl⟩
                                      replace H : (fault_Unsound.l4 k4 y155 x7_3 (x7_3.length : Int) (wrap64 (x101_4 + 1))) = some r := by first | (rw [hy155]; with_reducible exact H) | (have H2_ := (Option.bind_some _ _).symm.trans H; rw [hy155]; with_reducible exact H2_) | (have H2_ := (Option.bind_some _ _).symm.trans H; with_reducible exact H2_) | with_reducible exact H | (rw [hy155]; exact H) | exact H
                                      have Ny155 := Aside0.mk hy155
                                      clear hy155
                                      have H' := Aside0.mk H
                                      clear H
                                      have p154 : 0 ≤ (x101_4 : Int) := of_decide_eq_true (by first | (with_reducible assumption) | assumption)
                                      have q154 : x101_4 < (x7_3.length : Int) := of_decide_eq_true (by first | (with_reducible assumption) | assumption)
                                      obtain ⟨ad154, e154, hx154_0⟩ := Kd.at_bool (Kd.R_reads' HO_99.out).2.2 x101_4 p154 q154
                                      (try rw [← Nbq58.out] at hx154_0)
                                      cases e154
                                      replace p154 := eq_true p154
                                      replace q154 := eq_true q154
                                      go_wp2_with (first | ((with_reducible refine gate_builtin (b := .append) (xs := #[.tmp 107, .tmp 109]) rfl ?_); (try (refine gate_guard (by rfl) ?_; dsimp only)); at_builtin; refine Kd.R_append (Kd.int .i64) (w0 := w) w.heap.size rfl (.tmp 107) (.tmp 109) 28 3 (.int .i64 0) 8 rfl Try.underlying28 info3 rfl (by decide) (by omega) u15 x15_4 x101_4 [.int .i64 x101_4] (fun _ => True) (fun _ => False) rfl rfl ?aP (fun _ hk => hk.elim) ?aF ?aO ?aB ?aS ?aL ?_; (case aP => exact rfl); (case aB => exact (by repeat (first | (with_reducible first | exact HB.out | apply below_alloc | apply pw_below_drewN | apply below_drew1) | exact HB.out))); (case aF => exact (fun _ _ => trivial)); (case aO => exact (by (with_reducible repeat (first | apply Kd.R_alloc | apply Kd.R_drewN | apply Kd.R_drew)); exact HO_15.out)); (case aS => exact (below_size (by repeat (first | (with_reducible first | exact HB.out | apply below_alloc | apply pw_below_drewN | apply below_drew1) | exact HB.out)))); (case aL => have := LMc60.out; omega); intro v156 w61 ho hb hg hat; rw [← Ny155.out] at ho; have n0_ := Aside0.mk (Kd.R_over' (by (with_reducible repeat (first | apply Kd.R_alloc | apply Kd.R_drewN | apply Kd.R_drew)); exact HO_99.out) (Kd.R_typed (by (with_reducible repeat (first | apply Kd.R_alloc | apply Kd.R_drewN | apply Kd.R_drew)); exact HO_15.out)) (by decide) hg); have n1_ := Aside0.mk (hb); have n2_ := Aside0.mk (ho); clear HO_99; clear HB; clear HO_15; have HO_99 := n0_; have HB := n1_; have HO157 := n2_; clear n0_ n1_ n2_; clear ho hb hg hat))
                                      go_roundg k4
                                      case measure => have := HJ3.out; have := HK2.out; have := HK3.out; have := HK4.out; omega
                                      case rel => exact ⟨(y155), (wrap64 (x101_4 + 1)), (by first | rfl | (simp; done) | (simp [*]; done)), H', ⟨by have := HJ3.out; have := HK2.out; have := HK3.out; have := HK4.out; omega⟩, ⟨by (with_reducible repeat (first | apply Kd.R_alloc | apply Kd.R_drewN | apply Kd.R_drew)); exact HO157.out⟩, ⟨by (with_reducible repeat (first | apply Kd.R_alloc | apply Kd.R_drewN | apply Kd.R_drew)); exact HO_99.out⟩, ⟨by repeat (first | (with_reducible first | exact HB.out | apply below_alloc | apply pw_below_drewN | apply below_drew1) | exact HB.out)⟩⟩
                                    · rw [if_neg c60] at H
                                      exact absurd H (by simp)
                                  · replace c59 := Bool.eq_false_iff.mpr c59
                                    subst c59
                                    have H1 : (fault_Unsound.l4 k4 x15_4 x7_3 (x7_3.length : Int) (wrap64 (x101_4 + 1))) = some r := by rw [if_neg (show ¬ (false = true) by decide)] at H; exact H
                                    clear H
                                    have H := H1
                                    clear H1
                                    have H' := Aside0.mk H
                                    clear H
                                    have p154 : 0 ≤ (x101_4 : Int) := of_decide_eq_true (by first | (with_reducible assumption) | assumption)
                                    have q154 : x101_4 < (x7_3.length : Int) := of_decide_eq_true (by first | (with_reducible assumption) | assumption)
                                    obtain ⟨ad154, e154, hx154_0⟩ := Kd.at_bool (Kd.R_reads' HO_99.out).2.2 x101_4 p154 q154
                                    (try rw [← Nbq58.out] at hx154_0)
                                    cases e154
                                    replace p154 := eq_true p154
                                    replace q154 := eq_true q154
                                    go_wp2
                                    go_roundg k4
                                    case measure => have := HJ3.out; have := HK2.out; have := HK3.out; have := HK4.out; omega
                                    case rel => exact ⟨(x15_4), (wrap64 (x101_4 + 1)), (by first | rfl | (simp; done) | (simp [*]; done)), H', ⟨by have := HJ3.out; have := HK2.out; have := HK3.out; have := HK4.out; omega⟩, ⟨by (with_reducible repeat (first | apply Kd.R_alloc | apply Kd.R_drewN | apply Kd.R_drew)); exact HO_15.out⟩, ⟨by (with_reducible repeat (first | apply Kd.R_alloc | apply Kd.R_drewN | apply Kd.R_drew)); exact HO_99.out⟩, ⟨by repeat (first | (with_reducible first | exact HB.out | apply below_alloc | apply pw_below_drewN | apply below_drew1) | exact HB.out)⟩⟩
                                · rw [if_neg c57] at H
                                  exact absurd H (by simp)
                              · rw [if_neg c56] at H
                                exact absurd H (by simp)
                            · rw [if_neg c55] at H
                              have c55b0 : decide (x101_4 < (x7_3.length : Int)) = false := decide_eq_false c55
                              clear c55
                              obtain rfl := Option.some.inj H
                              go_wp2
                              go_ret
                              exact ⟨_, by first | rfl | (simp [errW_none, errW_some] <;> rfl) | (simp [*, errW_none, errW_some] <;> rfl), by (with_reducible repeat (first | apply Kd.R_alloc | apply Kd.R_drewN | apply Kd.R_drew)); exact HO_15.out, by repeat (first | (with_reducible first | exact HB.out | apply below_alloc | apply pw_below_drewN | apply below_drew1) | exact HB.out)⟩
          · rw [if_neg c8] at H
            exact absurd H (by simp)
        · rw [if_neg c7] at H
          exact absurd H (by simp)

end Go.Proofs.Ytcnckfhibmlioaa.PFa
