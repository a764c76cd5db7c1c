-- Printed for this claim by this session's turned copy of the print (wip/tools/xprint.sh)
import Derived.Test.YtcnckfhibmlioaaPFax0
import Derived.Test.YtcnckfhibmlioaaFaP15
namespace Go.Proofs.Ytcnckfhibmlioaa.PFa
open Go.RowKit Go.Proofs.YtcnckfhibmlioaaW.PrintWords Go.Proofs.YtcnckfhibmlioaaW.PrintLast Go.Proofs.YtcnckfhibmlioaaW.PrintMore
attribute [local go_sem] max2_int min2_int max_two min_two max_three min_three max_four min_four   -- for this text's walks alone
set_option linter.unusedVariables false
set_option linter.unusedSimpArgs false

/-! ### timesyncref01_MulDiv: function 79 -/
def timesyncref01_MulDiv.j0 : Nat → Int → Int → Bool → Bool → Option (Int × Bool)
  | 0, _, _, _, _ => none
  | k + 1, x10, x11, x13, x45 => if x45 = true then (if (IntKind.u64.wrap (x11 + 1)) = 0 then ((timesyncref01_signed.f k x13 (IntKind.u64.wrap (x10 + 1)) (IntKind.u64.wrap (x11 + 1))).bind fun bt409 => (some (bt409.1, bt409.2))) else ((timesyncref01_signed.f k x13 x10 (IntKind.u64.wrap (x11 + 1))).bind fun bt411 => (some (bt411.1, bt411.2)))) else ((timesyncref01_signed.f k x13 x10 x11).bind fun bt413 => (some (bt413.1, bt413.2)))
def timesyncref01_MulDiv.f (k : Nat) (a0 : Int) (a1 : Int) (a2 : Int) : Option (Int × Bool) := if a2 = 0 then (some (0, false)) else ((timesyncref01_size.f a0).bind fun t401 => ((timesyncref01_size.f a1).bind fun t402 => ((timesyncref01_product.f t401 t402).bind fun bt403 => ((timesyncref01_size.f a2).bind fun t405 => ((timesyncref01_divide.f k bt403.1 bt403.2 t405).bind fun bt406 => (if (((decide (a0 < 0)) != (decide (a1 < 0))) != (decide (a2 < 0))) = true then (timesyncref01_MulDiv.j0 k bt406.1 bt406.2.1 (((decide (a0 < 0)) != (decide (a1 < 0))) != (decide (a2 < 0))) (decide (bt406.2.2 > 0))) else (timesyncref01_MulDiv.j0 k bt406.1 bt406.2.1 (((decide (a0 < 0)) != (decide (a1 < 0))) != (decide (a2 < 0))) false)))))))
theorem timesyncref01_MulDiv.mono_l : ∀ k, (∀ y0 y1 y2 y3, LeO (timesyncref01_MulDiv.j0 k y0 y1 y2 y3) (timesyncref01_MulDiv.j0 (k + 1) y0 y1 y2 y3))
  | 0 => fun _ _ _ _ r h => by simp [timesyncref01_MulDiv.j0] at h
  | k + 1 => by
    have ih0 := timesyncref01_MulDiv.mono_l k
    · intro y0 y1 y2 y3
      unfold timesyncref01_MulDiv.j0
      repeat' first
      | (with_reducible exact ih0 _ _ _ _)
      | (with_reducible exact timesyncref01_divide.mono _ _ _ _)
      | (with_reducible exact timesyncref01_signed.mono _ _ _ _)
      | (with_reducible exact LeO.refl _)
      | (with_reducible exact LeO.none _)
      | (with_reducible refine LeO.ite ?_ ?_)
      | (with_reducible refine LeO.bind ?_ (fun _ => ?_))
      | exact ih0 _ _ _ _
      | exact timesyncref01_divide.mono _ _ _ _
      | exact timesyncref01_signed.mono _ _ _ _
      | exact LeO.none _
      | refine LeO.ite ?_ ?_
      | refine LeO.bind ?_ (fun _ => ?_)
theorem timesyncref01_MulDiv.mono : ∀ a0 a1 a2 k, LeO (timesyncref01_MulDiv.f k a0 a1 a2) (timesyncref01_MulDiv.f (k + 1) a0 a1 a2) := by
  intro a0 a1 a2 k
  have ih0 := timesyncref01_MulDiv.mono_l k
  unfold timesyncref01_MulDiv.f
  repeat' first
      | (with_reducible exact ih0 _ _ _ _)
      | (with_reducible exact timesyncref01_divide.mono _ _ _ _)
      | (with_reducible exact timesyncref01_signed.mono _ _ _ _)
      | (with_reducible exact LeO.refl _)
      | (with_reducible exact LeO.none _)
      | (with_reducible refine LeO.ite ?_ ?_)
      | (with_reducible refine LeO.bind ?_ (fun _ => ?_))
      | exact ih0 _ _ _ _
      | exact timesyncref01_divide.mono _ _ _ _
      | exact timesyncref01_signed.mono _ _ _ _
      | exact LeO.none _
      | refine LeO.ite ?_ ?_
      | refine LeO.bind ?_ (fun _ => ?_)
set_option maxHeartbeats 8000000 in
set_option maxRecDepth 100000 in
theorem timesyncref01_MulDiv.calls (k : Nat) (a0 : Int) (a1 : Int) (a2 : Int) (r1 : Int) (r2 : Bool) (w : World) (h : timesyncref01_MulDiv.f k a0 a1 a2 = some (r1, r2)) :
    Calls Try.prog 79 #[.int .i64 a0, .int .i64 a1, .int .i64 a2] w fun e w' => e = .returned (.tuple #[.int .i64 r1, .bool r2]) ∧ Drawn0 w w' := by
  obtain ⟨n_, hn_⟩ : ∃ n_ : Bool, (!((!(decide (a0 < 0) == decide (a1 < 0))) == decide (a2 < 0))) = n_ := ⟨_, rfl⟩
  have H : (if a2 = 0 then (some (0, false)) else ((timesyncref01_size.f a0).bind fun t401 => ((timesyncref01_size.f a1).bind fun t402 => ((timesyncref01_product.f t401 t402).bind fun bt403 => ((timesyncref01_size.f a2).bind fun t405 => ((timesyncref01_divide.f k bt403.1 bt403.2 t405).bind fun bt406 => (if n_ = true then (timesyncref01_MulDiv.j0 k bt406.1 bt406.2.1 n_ (decide (bt406.2.2 > 0))) else (timesyncref01_MulDiv.j0 k bt406.1 bt406.2.1 n_ false)))))))) = some (r1, r2) := by rw [← hn_]; exact h
  clear h
  by_cases c4 : a2 = 0
  · rw [if_pos c4] at H
    have c4b0 : (a2 == 0) = true := beq_iff_eq.mpr c4
    have c4b1 : (a2 != 0) = false := bne_eq_false_iff_eq.mpr c4
    clear c4
    simp only [Option.some.injEq, Prod.mk.injEq] at H
    obtain ⟨rfl, rfl⟩ := H
    go_enter Try.func79, Try.ntmps79
    go_wp2
    go_ret2
    exact ⟨by first | rfl | (simp; done) | (simp [*]; done), by repeat (first | exact Drawn0.refl _ | apply Drawn0.step)⟩
  · rw [if_neg c4] at H
    have c4b0 : (a2 == 0) = false := beq_eq_false_iff_ne.mpr c4
    have c4b1 : (a2 != 0) = true := bne_iff_ne.mpr c4
    replace H := Option.bind_eq_some_iff.mp H
    obtain ⟨t401, A50, H⟩ := H
    replace H : ((timesyncref01_size.f a1).bind fun t402 => ((timesyncref01_product.f t401 t402).bind fun bt403 => ((timesyncref01_size.f a2).bind fun t405 => ((timesyncref01_divide.f k bt403.1 bt403.2 t405).bind fun bt406 => (if n_ = true then (timesyncref01_MulDiv.j0 k bt406.1 bt406.2.1 n_ (decide (bt406.2.2 > 0))) else (timesyncref01_MulDiv.j0 k bt406.1 bt406.2.1 n_ false)))))) = some (r1, r2) := H
    have A5 := Aside0.mk A50
    clear A50
    replace H := Option.bind_eq_some_iff.mp H
    obtain ⟨t402, A60, H⟩ := H
    replace H : ((timesyncref01_product.f t401 t402).bind fun bt403 => ((timesyncref01_size.f a2).bind fun t405 => ((timesyncref01_divide.f k bt403.1 bt403.2 t405).bind fun bt406 => (if n_ = true then (timesyncref01_MulDiv.j0 k bt406.1 bt406.2.1 n_ (decide (bt406.2.2 > 0))) else (timesyncref01_MulDiv.j0 k bt406.1 bt406.2.1 n_ false))))) = some (r1, r2) := H
    have A6 := Aside0.mk A60
    clear A60
    replace H := Option.bind_eq_some_iff.mp H
    obtain ⟨⟨t403, t404⟩, A70, H⟩ := H
    replace H : ((timesyncref01_size.f a2).bind fun t405 => ((timesyncref01_divide.f k t403 t404 t405).bind fun bt406 => (if n_ = true then (timesyncref01_MulDiv.j0 k bt406.1 bt406.2.1 n_ (decide (bt406.2.2 > 0))) else (timesyncref01_MulDiv.j0 k bt406.1 bt406.2.1 n_ false)))) = some (r1, r2) := H
    have A7 := Aside0.mk A70
    clear A70
    replace H := Option.bind_eq_some_iff.mp H
    obtain ⟨t405, A80, H⟩ := H
    replace H : ((timesyncref01_divide.f k t403 t404 t405).bind fun bt406 => (if n_ = true then (timesyncref01_MulDiv.j0 k bt406.1 bt406.2.1 n_ (decide (bt406.2.2 > 0))) else (timesyncref01_MulDiv.j0 k bt406.1 bt406.2.1 n_ false))) = some (r1, r2) := H
    have A8 := Aside0.mk A80
    clear A80
    replace H := Option.bind_eq_some_iff.mp H
    obtain ⟨⟨t406, t407, t408⟩, A90, H⟩ := H
    replace H : (if n_ = true then (timesyncref01_MulDiv.j0 k t406 t407 n_ (decide (t408 > 0))) else (timesyncref01_MulDiv.j0 k t406 t407 n_ false)) = some (r1, r2) := H
    have A9 := Aside0.mk A90
    clear A90
    have HC10 := Aside0.mk H
    clear H
    go_enter Try.func79, Try.ntmps79
    go_upto_region 6 with (first | ((with_reducible refine gate_callee (f := 81) rfl ?_); refine goesL_ (some 18) rfl rfl Try.func81 (by kernel_rfl) rfl #[.int .i64 a0] rfl (by (try simp only [List.map_toArray, List.map_cons, List.map_nil]); first | done | rfl | (simp only [List.length_drop, List.length_take]; rfl)) ?_; (with_reducible refine (timesyncref01_size.calls a0 t401 _ A5.out).mono ?_); rintro e w' ⟨rfl, ⟨nd, rfl⟩⟩; refine ⟨_, rfl, ?_⟩) | ((with_reducible refine gate_callee (f := 81) rfl ?_); refine goesL_ (some 20) rfl rfl Try.func81 (by kernel_rfl) rfl #[.int .i64 a1] rfl (by (try simp only [List.map_toArray, List.map_cons, List.map_nil]); first | done | rfl | (simp only [List.length_drop, List.length_take]; rfl)) ?_; (with_reducible refine (timesyncref01_size.calls a1 t402 _ A6.out).mono ?_); rintro e w' ⟨rfl, ⟨nd, rfl⟩⟩; refine ⟨_, rfl, ?_⟩) | ((with_reducible refine gate_callee (f := 80) rfl ?_); refine goesL_ (some 21) rfl rfl Try.func80 (by kernel_rfl) rfl #[.int .u64 t401, .int .u64 t402] rfl (by (try simp only [List.map_toArray, List.map_cons, List.map_nil]); first | done | rfl | (simp only [List.length_drop, List.length_take]; rfl)) ?_; (with_reducible refine (timesyncref01_product.calls t401 t402 t403 t404 _ A7.out).mono ?_); rintro e w' ⟨rfl, ⟨nd, rfl⟩⟩; refine ⟨_, rfl, ?_⟩) | ((with_reducible refine gate_callee (f := 81) rfl ?_); refine goesL_ (some 28) rfl rfl Try.func81 (by kernel_rfl) rfl #[.int .i64 a2] rfl (by (try simp only [List.map_toArray, List.map_cons, List.map_nil]); first | done | rfl | (simp only [List.length_drop, List.length_take]; rfl)) ?_; (with_reducible refine (timesyncref01_size.calls a2 t405 _ A8.out).mono ?_); rintro e w' ⟨rfl, ⟨nd, rfl⟩⟩; refine ⟨_, rfl, ?_⟩) | ((with_reducible refine gate_callee (f := 82) rfl ?_); refine goesL_ (some 29) rfl rfl Try.func82 (by kernel_rfl) rfl #[.int .u64 t403, .int .u64 t404, .int .u64 t405] rfl (by (try simp only [List.map_toArray, List.map_cons, List.map_nil]); first | done | rfl | (simp only [List.length_drop, List.length_take]; rfl)) ?_; (with_reducible refine (timesyncref01_divide.calls k t403 t404 t405 t406 t407 t408 _ A9.out).mono ?_); rintro e w' ⟨rfl, ⟨nd, rfl⟩⟩; refine ⟨_, rfl, ?_⟩))
    (try simp only [Act.put, List.setIfInBounds_toArray, List.set_cons_zero, List.set_cons_succ])
    go_cut [45] (fun v45 wc => ∃ (kq : Nat) (x45_9 : Bool), v45 = .bool x45_9 ∧ Aside0 (timesyncref01_MulDiv.j0 kq t406 t407 n_ x45_9 = some (r1, r2)) ∧ Aside0 (kq ≤ k) ∧ Drawn0 w wc)
    case first =>
      have H := HC10.out
      clear HC10
      by_cases c11 : n_ = true
      · rw [if_pos c11] at H
        subst c11
        have H' := Aside0.mk H
        clear H
        go_wp2
        go_meet
        case rel => exact ⟨_, (decide (t408 > 0)), (by first | rfl | (simp; done) | (simp [*]; done)), H', ⟨by first | omega | exact Nat.le_refl _⟩, by repeat (first | exact Drawn0.refl _ | apply Drawn0.step)⟩
      · rw [if_neg c11] at H
        replace c11 := Bool.eq_false_iff.mpr c11
        subst c11
        have H' := Aside0.mk H
        clear H
        go_wp2
        go_meet
        case rel => exact ⟨_, (false), (by first | rfl | (simp; done) | (simp [*]; done)), H', ⟨by first | omega | exact Nat.le_refl _⟩, by repeat (first | exact Drawn0.refl _ | apply Drawn0.step)⟩
    case rest =>
      clear HC10
      try clear c1
      try clear p2
      try clear c4
      try clear c4b0
      try clear c4b1
      try clear c7
      try clear c8
      try clear c11
      try clear c11b0
      try clear c11b1
      try clear c11b2
      obtain ⟨kq, x45_9, rfl, HA, HJ9, ⟨mc9, rfl⟩⟩ := hcut
      cases kq with
      | zero => exact absurd HA.out (by simp [timesyncref01_MulDiv.j0])
      | succ kj9 =>
        have H := HA.out
        clear HA
        simp only [timesyncref01_MulDiv.j0] at H
        by_cases c12 : x45_9 = true
        · subst c12
          have H1 : (if (IntKind.u64.wrap (t407 + 1)) = 0 then ((timesyncref01_signed.f kj9 n_ (IntKind.u64.wrap (t406 + 1)) (IntKind.u64.wrap (t407 + 1))).bind fun bt409 => (some (bt409.1, bt409.2))) else ((timesyncref01_signed.f kj9 n_ t406 (IntKind.u64.wrap (t407 + 1))).bind fun bt411 => (some (bt411.1, bt411.2)))) = some (r1, r2) := by rw [if_pos rfl] at H; exact H
          clear H
          have H := H1
          clear H1
          by_cases c13 : (IntKind.u64.wrap (t407 + 1)) = 0
          · rw [if_pos c13] at H
            have c13b0 : ((IntKind.u64.wrap (t407 + 1)) == 0) = true := beq_iff_eq.mpr c13
            have c13b1 : ((IntKind.u64.wrap (t407 + 1)) != 0) = false := bne_eq_false_iff_eq.mpr c13
            clear c13
            replace H := Option.bind_eq_some_iff.mp H
            obtain ⟨⟨t409, t410⟩, A140, H⟩ := H
            replace H : (some (t409, t410)) = some (r1, r2) := H
            have A14 := Aside0.mk A140
            clear A140
            simp only [Option.some.injEq, Prod.mk.injEq] at H
            obtain ⟨rfl, rfl⟩ := H
            go_wp2_with (first | ((with_reducible refine gate_callee (f := 83) rfl ?_); refine goesL_ (some 55) rfl rfl Try.func83 (by kernel_rfl) rfl #[.bool n_, .int .u64 (IntKind.u64.wrap (t406 + 1)), .int .u64 (IntKind.u64.wrap (t407 + 1))] rfl (by (try simp only [List.map_toArray, List.map_cons, List.map_nil]); first | done | rfl | (simp only [List.length_drop, List.length_take]; rfl)) ?_; (with_reducible refine (timesyncref01_signed.calls kj9 n_ (IntKind.u64.wrap (t406 + 1)) (IntKind.u64.wrap (t407 + 1)) t409 t410 _ A14.out).mono ?_); rintro e w' ⟨rfl, ⟨nd, rfl⟩⟩; refine ⟨_, rfl, ?_⟩))
            go_ret2
            exact ⟨by first | rfl | (simp; done) | (simp [*]; done), by repeat (first | exact Drawn0.refl _ | apply Drawn0.step)⟩
          · rw [if_neg c13] at H
            have c13b0 : ((IntKind.u64.wrap (t407 + 1)) == 0) = false := beq_eq_false_iff_ne.mpr c13
            have c13b1 : ((IntKind.u64.wrap (t407 + 1)) != 0) = true := bne_iff_ne.mpr c13
            replace H := Option.bind_eq_some_iff.mp H
            obtain ⟨⟨t411, t412⟩, A150, H⟩ := H
            replace H : (some (t411, t412)) = some (r1, r2) := H
            have A15 := Aside0.mk A150
            clear A150
            simp only [Option.some.injEq, Prod.mk.injEq] at H
            obtain ⟨rfl, rfl⟩ := H
            go_wp2_with (first | ((with_reducible refine gate_callee (f := 83) rfl ?_); refine goesL_ (some 55) rfl rfl Try.func83 (by kernel_rfl) rfl #[.bool n_, .int .u64 t406, .int .u64 (IntKind.u64.wrap (t407 + 1))] rfl (by (try simp only [List.map_toArray, List.map_cons, List.map_nil]); first | done | rfl | (simp only [List.length_drop, List.length_take]; rfl)) ?_; (with_reducible refine (timesyncref01_signed.calls kj9 n_ t406 (IntKind.u64.wrap (t407 + 1)) t411 t412 _ A15.out).mono ?_); rintro e w' ⟨rfl, ⟨nd, rfl⟩⟩; refine ⟨_, rfl, ?_⟩))
            go_ret2
            exact ⟨by first | rfl | (simp; done) | (simp [*]; done), by repeat (first | exact Drawn0.refl _ | apply Drawn0.step)⟩
        · replace c12 := Bool.eq_false_iff.mpr c12
          subst c12
          have H1 : ((timesyncref01_signed.f kj9 n_ t406 t407).bind fun bt413 => (some (bt413.1, bt413.2))) = some (r1, r2) := by rw [if_neg (show ¬ (false = true) by decide)] at H; exact H
          clear H
          have H := H1
          clear H1
          replace H := Option.bind_eq_some_iff.mp H
          obtain ⟨⟨t413, t414⟩, A160, H⟩ := H
          replace H : (some (t413, t414)) = some (r1, r2) := H
          have A16 := Aside0.mk A160
          clear A160
          simp only [Option.some.injEq, Prod.mk.injEq] at H
          obtain ⟨rfl, rfl⟩ := H
          go_wp2_with (first | ((with_reducible refine gate_callee (f := 83) rfl ?_); refine goesL_ (some 55) rfl rfl Try.func83 (by kernel_rfl) rfl #[.bool n_, .int .u64 t406, .int .u64 t407] rfl (by (try simp only [List.map_toArray, List.map_cons, List.map_nil]); first | done | rfl | (simp only [List.length_drop, List.length_take]; rfl)) ?_; (with_reducible refine (timesyncref01_signed.calls kj9 n_ t406 t407 t413 t414 _ A16.out).mono ?_); rintro e w' ⟨rfl, ⟨nd, rfl⟩⟩; refine ⟨_, rfl, ?_⟩))
          go_ret2
          exact ⟨by first | rfl | (simp; done) | (simp [*]; done), by repeat (first | exact Drawn0.refl _ | apply Drawn0.step)⟩

/-! ### timesyncref01_Floor: function 73 -/
def timesyncref01_Floor.f (k : Nat) (a0 : Int) (a1 : Int) : Option (Int × Bool) := (timesyncref01_MulDiv.f k a0 1 a1).bind fun bt415 => (some (bt415.1, bt415.2))
theorem timesyncref01_Floor.mono : ∀ a0 a1 k, LeO (timesyncref01_Floor.f k a0 a1) (timesyncref01_Floor.f (k + 1) a0 a1) := by
  intro a0 a1 k
  unfold timesyncref01_Floor.f
  repeat' first
      | (with_reducible exact timesyncref01_MulDiv.mono _ _ _ _)
      | (with_reducible exact LeO.refl _)
      | (with_reducible exact LeO.none _)
      | (with_reducible refine LeO.ite ?_ ?_)
      | (with_reducible refine LeO.bind ?_ (fun _ => ?_))
      | exact timesyncref01_MulDiv.mono _ _ _ _
      | exact LeO.none _
      | refine LeO.ite ?_ ?_
      | refine LeO.bind ?_ (fun _ => ?_)
set_option maxHeartbeats 8000000 in
set_option maxRecDepth 100000 in
theorem timesyncref01_Floor.calls (k : Nat) (a0 : Int) (a1 : Int) (r1 : Int) (r2 : Bool) (w : World) (h : timesyncref01_Floor.f k a0 a1 = some (r1, r2)) :
    Calls Try.prog 73 #[.int .i64 a0, .int .i64 a1] w fun e w' => e = .returned (.tuple #[.int .i64 r1, .bool r2]) ∧ Drawn0 w w' := by
  have H : ((timesyncref01_MulDiv.f k a0 1 a1).bind fun bt415 => (some (bt415.1, bt415.2))) = some (r1, r2) := h
  clear h
  replace H := Option.bind_eq_some_iff.mp H
  obtain ⟨⟨t415, t416⟩, A30, H⟩ := H
  replace H : (some (t415, t416)) = some (r1, r2) := H
  have A3 := Aside0.mk A30
  clear A30
  simp only [Option.some.injEq, Prod.mk.injEq] at H
  obtain ⟨rfl, rfl⟩ := H
  go_enter Try.func73, Try.ntmps73
  go_wp2_with (first | ((with_reducible refine gate_callee (f := 79) rfl ?_); refine goesL_ (some 8) rfl rfl Try.func79 (by kernel_rfl) rfl #[.int .i64 a0, .int .i64 1, .int .i64 a1] rfl (by (try simp only [List.map_toArray, List.map_cons, List.map_nil]); first | done | rfl | (simp only [List.length_drop, List.length_take]; rfl)) ?_; (with_reducible refine (timesyncref01_MulDiv.calls k a0 1 a1 t415 t416 _ A3.out).mono ?_); rintro e w' ⟨rfl, ⟨nd, rfl⟩⟩; refine ⟨_, rfl, ?_⟩))
  go_ret2
  exact ⟨by first | rfl | (simp; done) | (simp [*]; done), by repeat (first | exact Drawn0.refl _ | apply Drawn0.step)⟩

/-! ### timesyncref55_middle: function 59 -/
def timesyncref55_middle.f (k : Nat) (a0_0 : Int) (a0_1 : Int) : Option (Int) := (timesyncref01_Floor.f k a0_0 2).bind fun bt418 => ((timesyncref01_Floor.f k a0_1 2).bind fun bt420 => (if (wrap64 (a0_0 - (wrap64 (2 * bt418.1)))) = 1 then (if (wrap64 (a0_1 - (wrap64 (2 * bt420.1)))) = 1 then (some (wrap64 ((wrap64 (bt418.1 + bt420.1)) + 1))) else (some (wrap64 (bt418.1 + bt420.1)))) else (some (wrap64 (bt418.1 + bt420.1)))))
theorem timesyncref55_middle.mono : ∀ a0 a1 k, LeO (timesyncref55_middle.f k a0 a1) (timesyncref55_middle.f (k + 1) a0 a1) := by
  intro a0 a1 k
  unfold timesyncref55_middle.f
  repeat' first
      | (with_reducible exact timesyncref01_Floor.mono _ _ _)
      | (with_reducible exact LeO.refl _)
      | (with_reducible exact LeO.none _)
      | (with_reducible refine LeO.ite ?_ ?_)
      | (with_reducible refine LeO.bind ?_ (fun _ => ?_))
      | exact timesyncref01_Floor.mono _ _ _
      | exact LeO.none _
      | refine LeO.ite ?_ ?_
      | refine LeO.bind ?_ (fun _ => ?_)
set_option maxHeartbeats 8000000 in
set_option maxRecDepth 100000 in
theorem timesyncref55_middle.calls (k : Nat) (a0_0 : Int) (a0_1 : Int) (r : Int) (w : World) (h : timesyncref55_middle.f k a0_0 a0_1 = some r) :
    Calls Try.prog 59 #[.agg #[.int .i64 a0_0, .int .i64 a0_1]] w fun e w' => e = .returned (.int .i64 r) ∧ Below w.heap.size w w' := by
  have hu35 := Try.underlying35
  have HB := Aside0.mk (Below.refl w.heap.size w)
  have H : ((timesyncref01_Floor.f k a0_0 2).bind fun bt418 => ((timesyncref01_Floor.f k a0_1 2).bind fun bt420 => (if (wrap64 (a0_0 - (wrap64 (2 * bt418.1)))) = 1 then (if (wrap64 (a0_1 - (wrap64 (2 * bt420.1)))) = 1 then (some (wrap64 ((wrap64 (bt418.1 + bt420.1)) + 1))) else (some (wrap64 (bt418.1 + bt420.1)))) else (some (wrap64 (bt418.1 + bt420.1)))))) = some r := h
  clear h
  replace H := Option.bind_eq_some_iff.mp H
  obtain ⟨⟨t418, t419⟩, A20, H⟩ := H
  replace H : ((timesyncref01_Floor.f k a0_1 2).bind fun bt420 => (if (wrap64 (a0_0 - (wrap64 (2 * t418)))) = 1 then (if (wrap64 (a0_1 - (wrap64 (2 * bt420.1)))) = 1 then (some (wrap64 ((wrap64 (t418 + bt420.1)) + 1))) else (some (wrap64 (t418 + bt420.1)))) else (some (wrap64 (t418 + bt420.1))))) = some r := H
  have A2 := Aside0.mk A20
  clear A20
  replace H := Option.bind_eq_some_iff.mp H
  obtain ⟨⟨t420, t421⟩, A30, H⟩ := H
  replace H : (if (wrap64 (a0_0 - (wrap64 (2 * t418)))) = 1 then (if (wrap64 (a0_1 - (wrap64 (2 * t420)))) = 1 then (some (wrap64 ((wrap64 (t418 + t420)) + 1))) else (some (wrap64 (t418 + t420)))) else (some (wrap64 (t418 + t420)))) = some r := H
  have A3 := Aside0.mk A30
  clear A30
  by_cases c4 : (wrap64 (a0_0 - (wrap64 (2 * t418)))) = 1
  · rw [if_pos c4] at H
    have c4b0 : ((wrap64 (a0_0 - (wrap64 (2 * t418)))) == 1) = true := beq_iff_eq.mpr c4
    have c4b1 : ((wrap64 (a0_0 - (wrap64 (2 * t418)))) != 1) = false := bne_eq_false_iff_eq.mpr c4
    clear c4
    by_cases c5 : (wrap64 (a0_1 - (wrap64 (2 * t420)))) = 1
    · rw [if_pos c5] at H
      have c5b0 : ((wrap64 (a0_1 - (wrap64 (2 * t420)))) == 1) = true := beq_iff_eq.mpr c5
      have c5b1 : ((wrap64 (a0_1 - (wrap64 (2 * t420)))) != 1) = false := bne_eq_false_iff_eq.mpr c5
      clear c5
      obtain rfl := Option.some.inj H
      go_enter Try.func59, Try.ntmps59
      go_wp2_with (first | ((with_reducible refine gate_dst (N := 1) rfl ?_); refine box_event ?hg (N := 1) ?hd (cs := #[.int .i64 a0_0, .int .i64 a0_1]) (t := 35) ?hr ?_; (case hd => rfl); (case hg => rfl); (case hr => first | (go_simp; done) | (go_simp; rfl)); intro gb417 hg w6 hbox hb; have n0_ := Aside0.mk (below_step (by repeat (first | (with_reducible first | exact HB.out | apply below_alloc | apply pw_below_drewN | apply below_drew1) | exact HB.out)) hb); have n1_ := Aside0.mk (hbox); have n2_ := Aside0.mk ((by rw [hg]; exact (below_size (by repeat (first | (with_reducible first | exact HB.out | apply below_alloc | apply pw_below_drewN | apply below_drew1) | exact HB.out))) : w.heap.size ≤ gb417)); have n3_ := Aside0.mk ((by rw [hg]; exact (below_size (by repeat (first | (with_reducible first | exact HB.out | apply below_alloc | apply pw_below_drewN | apply below_drew1) | exact HB.out))) : w.heap.size ≤ gb417)); clear HB; have HB := n0_; have BK417 := n1_; have GW417 := n2_; have GE417 := n3_; clear n0_ n1_ n2_ n3_; clear hb hbox hg; have hcz7_0 : w6.cell? ⟨gb417, 0, none⟩ = some (.int .i64 a0_0) := (blk_cell BK417.out 0).trans rfl; have hcz7_1 : w6.cell? ⟨gb417, 1, none⟩ = some (.int .i64 a0_1) := (blk_cell BK417.out 1).trans rfl; have hfz7_0 := blk_frozen BK417.out 0; have hfz7_1 := blk_frozen BK417.out 1) | ((with_reducible refine gate_callee (f := 73) rfl ?_); refine goesL_ (some 10) rfl rfl Try.func73 (by kernel_rfl) rfl #[.int .i64 a0_0, .int .i64 2] rfl (by (try simp only [List.map_toArray, List.map_cons, List.map_nil]); first | done | rfl | (simp only [List.length_drop, List.length_take]; rfl)) ?_; (with_reducible refine (timesyncref01_Floor.calls k a0_0 2 t418 t419 _ A2.out).mono ?_); rintro e w' ⟨rfl, ⟨nd, rfl⟩⟩; refine ⟨_, rfl, ?_⟩) | ((with_reducible refine gate_callee (f := 73) rfl ?_); refine goesL_ (some 16) rfl rfl Try.func73 (by kernel_rfl) rfl #[.int .i64 a0_1, .int .i64 2] rfl (by (try simp only [List.map_toArray, List.map_cons, List.map_nil]); first | done | rfl | (simp only [List.length_drop, List.length_take]; rfl)) ?_; (with_reducible refine (timesyncref01_Floor.calls k a0_1 2 t420 t421 _ A3.out).mono ?_); rintro e w' ⟨rfl, ⟨nd, rfl⟩⟩; refine ⟨_, rfl, ?_⟩))
      go_ret
      exact ⟨by first | rfl | (simp [errW_none, errW_some] <;> rfl) | (simp [*, errW_none, errW_some] <;> rfl), by repeat (first | (with_reducible first | exact HB.out | apply below_alloc | apply pw_below_drewN | apply below_drew1 | refine below_set ?_ GE417.out) | exact HB.out)⟩
    · rw [if_neg c5] at H
      have c5b0 : ((wrap64 (a0_1 - (wrap64 (2 * t420)))) == 1) = false := beq_eq_false_iff_ne.mpr c5
      have c5b1 : ((wrap64 (a0_1 - (wrap64 (2 * t420)))) != 1) = true := bne_iff_ne.mpr c5
      obtain rfl := Option.some.inj H
      go_enter Try.func59, Try.ntmps59
      go_wp2_with (first | ((with_reducible refine gate_dst (N := 1) rfl ?_); refine box_event ?hg (N := 1) ?hd (cs := #[.int .i64 a0_0, .int .i64 a0_1]) (t := 35) ?hr ?_; (case hd => rfl); (case hg => rfl); (case hr => first | (go_simp; done) | (go_simp; rfl)); intro gb417 hg w8 hbox hb; have n0_ := Aside0.mk (below_step (by repeat (first | (with_reducible first | exact HB.out | apply below_alloc | apply pw_below_drewN | apply below_drew1) | exact HB.out)) hb); have n1_ := Aside0.mk (hbox); have n2_ := Aside0.mk ((by rw [hg]; exact (below_size (by repeat (first | (with_reducible first | exact HB.out | apply below_alloc | apply pw_below_drewN | apply below_drew1) | exact HB.out))) : w.heap.size ≤ gb417)); have n3_ := Aside0.mk ((by rw [hg]; exact (below_size (by repeat (first | (with_reducible first | exact HB.out | apply below_alloc | apply pw_below_drewN | apply below_drew1) | exact HB.out))) : w.heap.size ≤ gb417)); clear HB; have HB := n0_; have BK417 := n1_; have GW417 := n2_; have GE417 := n3_; clear n0_ n1_ n2_ n3_; clear hb hbox hg; have hcz9_0 : w8.cell? ⟨gb417, 0, none⟩ = some (.int .i64 a0_0) := (blk_cell BK417.out 0).trans rfl; have hcz9_1 : w8.cell? ⟨gb417, 1, none⟩ = some (.int .i64 a0_1) := (blk_cell BK417.out 1).trans rfl; have hfz9_0 := blk_frozen BK417.out 0; have hfz9_1 := blk_frozen BK417.out 1) | ((with_reducible refine gate_callee (f := 73) rfl ?_); refine goesL_ (some 10) rfl rfl Try.func73 (by kernel_rfl) rfl #[.int .i64 a0_0, .int .i64 2] rfl (by (try simp only [List.map_toArray, List.map_cons, List.map_nil]); first | done | rfl | (simp only [List.length_drop, List.length_take]; rfl)) ?_; (with_reducible refine (timesyncref01_Floor.calls k a0_0 2 t418 t419 _ A2.out).mono ?_); rintro e w' ⟨rfl, ⟨nd, rfl⟩⟩; refine ⟨_, rfl, ?_⟩) | ((with_reducible refine gate_callee (f := 73) rfl ?_); refine goesL_ (some 16) rfl rfl Try.func73 (by kernel_rfl) rfl #[.int .i64 a0_1, .int .i64 2] rfl (by (try simp only [List.map_toArray, List.map_cons, List.map_nil]); first | done | rfl | (simp only [List.length_drop, List.length_take]; rfl)) ?_; (with_reducible refine (timesyncref01_Floor.calls k a0_1 2 t420 t421 _ A3.out).mono ?_); rintro e w' ⟨rfl, ⟨nd, rfl⟩⟩; refine ⟨_, rfl, ?_⟩))
      go_ret
      exact ⟨by first | rfl | (simp [errW_none, errW_some] <;> rfl) | (simp [*, errW_none, errW_some] <;> rfl), by repeat (first | (with_reducible first | exact HB.out | apply below_alloc | apply pw_below_drewN | apply below_drew1 | refine below_set ?_ GE417.out) | exact HB.out)⟩
  · rw [if_neg c4] at H
    have c4b0 : ((wrap64 (a0_0 - (wrap64 (2 * t418)))) == 1) = false := beq_eq_false_iff_ne.mpr c4
    have c4b1 : ((wrap64 (a0_0 - (wrap64 (2 * t418)))) != 1) = true := bne_iff_ne.mpr c4
    obtain rfl := Option.some.inj H
    go_enter Try.func59, Try.ntmps59
    go_wp2_with (first | ((with_reducible refine gate_dst (N := 1) rfl ?_); refine box_event ?hg (N := 1) ?hd (cs := #[.int .i64 a0_0, .int .i64 a0_1]) (t := 35) ?hr ?_; (case hd => rfl); (case hg => rfl); (case hr => first | (go_simp; done) | (go_simp; rfl)); intro gb417 hg w10 hbox hb; have n0_ := Aside0.mk (below_step (by repeat (first | (with_reducible first | exact HB.out | apply below_alloc | apply pw_below_drewN | apply below_drew1) | exact HB.out)) hb); have n1_ := Aside0.mk (hbox); have n2_ := Aside0.mk ((by rw [hg]; exact (below_size (by repeat (first | (with_reducible first | exact HB.out | apply below_alloc | apply pw_below_drewN | apply below_drew1) | exact HB.out))) : w.heap.size ≤ gb417)); have n3_ := Aside0.mk ((by rw [hg]; exact (below_size (by repeat (first | (with_reducible first | exact HB.out | apply below_alloc | apply pw_below_drewN | apply below_drew1) | exact HB.out))) : w.heap.size ≤ gb417)); clear HB; have HB := n0_; have BK417 := n1_; have GW417 := n2_; have GE417 := n3_; clear n0_ n1_ n2_ n3_; clear hb hbox hg; have hcz11_0 : w10.cell? ⟨gb417, 0, none⟩ = some (.int .i64 a0_0) := (blk_cell BK417.out 0).trans rfl; have hcz11_1 : w10.cell? ⟨gb417, 1, none⟩ = some (.int .i64 a0_1) := (blk_cell BK417.out 1).trans rfl; have hfz11_0 := blk_frozen BK417.out 0; have hfz11_1 := blk_frozen BK417.out 1) | ((with_reducible refine gate_callee (f := 73) rfl ?_); refine goesL_ (some 10) rfl rfl Try.func73 (by kernel_rfl) rfl #[.int .i64 a0_0, .int .i64 2] rfl (by (try simp only [List.map_toArray, List.map_cons, List.map_nil]); first | done | rfl | (simp only [List.length_drop, List.length_take]; rfl)) ?_; (with_reducible refine (timesyncref01_Floor.calls k a0_0 2 t418 t419 _ A2.out).mono ?_); rintro e w' ⟨rfl, ⟨nd, rfl⟩⟩; refine ⟨_, rfl, ?_⟩) | ((with_reducible refine gate_callee (f := 73) rfl ?_); refine goesL_ (some 16) rfl rfl Try.func73 (by kernel_rfl) rfl #[.int .i64 a0_1, .int .i64 2] rfl (by (try simp only [List.map_toArray, List.map_cons, List.map_nil]); first | done | rfl | (simp only [List.length_drop, List.length_take]; rfl)) ?_; (with_reducible refine (timesyncref01_Floor.calls k a0_1 2 t420 t421 _ A3.out).mono ?_); rintro e w' ⟨rfl, ⟨nd, rfl⟩⟩; refine ⟨_, rfl, ?_⟩))
    go_ret
    exact ⟨by first | rfl | (simp [errW_none, errW_some] <;> rfl) | (simp [*, errW_none, errW_some] <;> rfl), by repeat (first | (with_reducible first | exact HB.out | apply below_alloc | apply pw_below_drewN | apply below_drew1 | refine below_set ?_ GE417.out) | exact HB.out)⟩

/-! ### timesyncref19_Code: function 60 -/
def timesyncref19_Code.l0 : Nat → ByteArray → Int → Int → Option (Int × Int)
  | 0, _, _, _ => none
  | k + 1, x0, x4, x5 => if x5 < 4 then (if 0 ≤ x5 then (if x5 < (x0.size : Int) then (if (bt x0 x5) < 65 then (some (0, 19)) else (if (bt x0 x5) > 90 then (some (0, 19)) else (timesyncref19_Code.l0 k x0 ((((x4 * 256) % 4294967296) + ((bt x0 x5) % 4294967296)) % 4294967296) (wrap64 (x5 + 1))))) else (none)) else (none)) else (some (x4, 0))
def timesyncref19_Code.f (k : Nat) (a0 : ByteArray) : Option (Int × Int) := if (a0.size : Int) = 4 then (timesyncref19_Code.l0 k a0 0 0) else (some (0, 19))
theorem timesyncref19_Code.mono_l : ∀ k, (∀ y0 y1 y2, LeO (timesyncref19_Code.l0 k y0 y1 y2) (timesyncref19_Code.l0 (k + 1) y0 y1 y2))
  | 0 => fun _ _ _ r h => by simp [timesyncref19_Code.l0] at h
  | k + 1 => by
    have ih0 := timesyncref19_Code.mono_l k
    · intro y0 y1 y2
      unfold timesyncref19_Code.l0
      repeat' first
      | (with_reducible exact ih0 _ _ _)
      | (with_reducible exact LeO.refl _)
      | (with_reducible exact LeO.none _)
      | (with_reducible refine LeO.ite ?_ ?_)
      | (with_reducible refine LeO.bind ?_ (fun _ => ?_))
      | exact ih0 _ _ _
      | exact LeO.none _
      | refine LeO.ite ?_ ?_
      | refine LeO.bind ?_ (fun _ => ?_)
theorem timesyncref19_Code.mono : ∀ a0 k, LeO (timesyncref19_Code.f k a0) (timesyncref19_Code.f (k + 1) a0) := by
  intro a0 k
  have ih0 := timesyncref19_Code.mono_l k
  unfold timesyncref19_Code.f
  repeat' first
      | (with_reducible exact ih0 _ _ _)
      | (with_reducible exact LeO.refl _)
      | (with_reducible exact LeO.none _)
      | (with_reducible refine LeO.ite ?_ ?_)
      | (with_reducible refine LeO.bind ?_ (fun _ => ?_))
      | exact ih0 _ _ _
      | exact LeO.none _
      | refine LeO.ite ?_ ?_
      | refine LeO.bind ?_ (fun _ => ?_)
set_option maxHeartbeats 8000000 in
set_option maxRecDepth 100000 in
theorem timesyncref19_Code.calls (k : Nat) (a0 : ByteArray) (r1 : Int) (r2 : Int) (w : World) (h : timesyncref19_Code.f k a0 = some (r1, r2)) :
    Calls Try.prog 60 #[.string a0] w fun e w' => e = .returned (.tuple #[.int .u32 r1, .int .i64 r2]) ∧ Drawn0 w w' := by
  have H : (if (a0.size : Int) = 4 then (timesyncref19_Code.l0 k a0 0 0) else (some (0, 19))) = some (r1, r2) := h
  clear h
  by_cases c2 : (a0.size : Int) = 4
  · rw [if_pos c2] at H
    have c2b0 : ((a0.size : Int) == 4) = true := beq_iff_eq.mpr c2
    have c2b1 : ((a0.size : Int) != 4) = false := bne_eq_false_iff_eq.mpr c2
    clear c2
    have H' := Aside0.mk H
    clear H
    go_enter Try.func60, Try.ntmps60
    go_wp2
    go_loopg [4, 5] k (fun kq v4 v5 w' => ∃ (x4_1 : Int) (x5_1 : Int), v4 = .int .u32 x4_1 ∧ v5 = .int .i64 x5_1 ∧ Aside0 (timesyncref19_Code.l0 kq a0 x4_1 x5_1 = some (r1, r2)) ∧ Aside0 (kq ≤ k) ∧ Drawn0 w w')
    case atStart => exact ⟨(0), (0), (by first | rfl | (simp; done) | (simp [*]; done)), (by first | rfl | (simp; done) | (simp [*]; done)), H', ⟨Nat.le_refl _⟩, by repeat (first | exact Drawn0.refl _ | apply Drawn0.step)⟩
    case round =>
      clear H'
      try clear c2
      try clear c2b0
      try clear c2b1
      try clear p2
      obtain ⟨x4_1, x5_1, rfl, rfl, HA, HK1, ⟨m1, rfl⟩⟩ := hrel
      cases gk with
      | zero => exact absurd HA.out (by simp [timesyncref19_Code.l0])
      | succ k1 =>
        have H := HA.out
        clear HA
        simp only [timesyncref19_Code.l0] at H
        by_cases c3 : x5_1 < 4
        · rw [if_pos c3] at H
          have c3b0 : decide (x5_1 < 4) = true := decide_eq_true c3
          clear c3
          by_cases c4 : 0 ≤ x5_1
          · rw [if_pos c4] at H
            have c4b0 : decide (0 ≤ x5_1) = true := decide_eq_true c4
            clear c4
            by_cases c5 : x5_1 < (a0.size : Int)
            · rw [if_pos c5] at H
              have c5b0 : decide (x5_1 < (a0.size : Int)) = true := decide_eq_true c5
              clear c5
              by_cases c7 : (bt a0 x5_1) < 65
              · rw [if_pos c7] at H
                have c7b0 : decide ((bt a0 x5_1) < 65) = true := decide_eq_true c7
                clear c7
                simp only [Option.some.injEq, Prod.mk.injEq] at H
                obtain ⟨rfl, rfl⟩ := H
                have p6 : 0 ≤ (x5_1 : Int) := of_decide_eq_true (by first | (with_reducible assumption) | assumption)
                have q6 : x5_1 < (a0.size : Int) := of_decide_eq_true (by first | (with_reducible assumption) | assumption)
                have hx6 := bt_at a0 x5_1
                replace p6 := eq_true p6
                replace q6 := eq_true q6
                go_wp2
                go_ret2
                exact ⟨by first | rfl | (simp; done) | (simp [*]; done), by repeat (first | exact Drawn0.refl _ | apply Drawn0.step)⟩
              · rw [if_neg c7] at H
                have c7b0 : decide ((bt a0 x5_1) < 65) = false := decide_eq_false c7
                clear c7
                by_cases c9 : (bt a0 x5_1) > 90
                · rw [if_pos c9] at H
                  have c9b0 : decide (90 < (bt a0 x5_1)) = true := decide_eq_true c9
                  clear c9
                  simp only [Option.some.injEq, Prod.mk.injEq] at H
                  obtain ⟨rfl, rfl⟩ := H
                  have p6 : 0 ≤ (x5_1 : Int) := of_decide_eq_true (by first | (with_reducible assumption) | assumption)
                  have q6 : x5_1 < (a0.size : Int) := of_decide_eq_true (by first | (with_reducible assumption) | assumption)
                  have hx6 := bt_at a0 x5_1
                  replace p6 := eq_true p6
                  replace q6 := eq_true q6
                  have p8 : 0 ≤ (x5_1 : Int) := of_decide_eq_true (by first | (with_reducible assumption) | assumption)
                  have q8 : x5_1 < (a0.size : Int) := of_decide_eq_true (by first | (with_reducible assumption) | assumption)
                  have hx8 := bt_at a0 x5_1
                  replace p8 := eq_true p8
                  replace q8 := eq_true q8
                  go_wp2
                  go_ret2
                  exact ⟨by first | rfl | (simp; done) | (simp [*]; done), by repeat (first | exact Drawn0.refl _ | apply Drawn0.step)⟩
                · rw [if_neg c9] at H
                  have c9b0 : decide (90 < (bt a0 x5_1)) = false := decide_eq_false c9
                  clear c9
                  have H' := Aside0.mk H
                  clear H
                  have p6 : 0 ≤ (x5_1 : Int) := of_decide_eq_true (by first | (with_reducible assumption) | assumption)
                  have q6 : x5_1 < (a0.size : Int) := of_decide_eq_true (by first | (with_reducible assumption) | assumption)
                  have hx6 := bt_at a0 x5_1
                  replace p6 := eq_true p6
                  replace q6 := eq_true q6
                  have p8 : 0 ≤ (x5_1 : Int) := of_decide_eq_true (by first | (with_reducible assumption) | assumption)
                  have q8 : x5_1 < (a0.size : Int) := of_decide_eq_true (by first | (with_reducible assumption) | assumption)
                  have hx8 := bt_at a0 x5_1
                  replace p8 := eq_true p8
                  replace q8 := eq_true q8
                  have p10 : 0 ≤ (x5_1 : Int) := of_decide_eq_true (by first | (with_reducible assumption) | assumption)
                  have q10 : x5_1 < (a0.size : Int) := of_decide_eq_true (by first | (with_reducible assumption) | assumption)
                  have hx10 := bt_at a0 x5_1
                  replace p10 := eq_true p10
                  replace q10 := eq_true q10
                  go_wp2
                  go_roundg k1
                  case measure => have := HK1.out; omega
                  case rel => exact ⟨((((x4_1 * 256) % 4294967296) + ((bt a0 x5_1) % 4294967296)) % 4294967296), (wrap64 (x5_1 + 1)), (by first | rfl | (simp; done) | (simp [*]; done)), (by first | rfl | (simp; done) | (simp [*]; done)), H', ⟨by have := HK1.out; omega⟩, by repeat (first | exact Drawn0.refl _ | apply Drawn0.step)⟩
            · rw [if_neg c5] at H
              exact absurd H (by simp)
          · rw [if_neg c4] at H
            exact absurd H (by simp)
        · rw [if_neg c3] at H
          have c3b0 : decide (x5_1 < 4) = false := decide_eq_false c3
          clear c3
          simp only [Option.some.injEq, Prod.mk.injEq] at H
          obtain ⟨rfl, rfl⟩ := H
          go_wp2
          go_ret2
          exact ⟨by first | rfl | (simp; done) | (simp [*]; done), by repeat (first | exact Drawn0.refl _ | apply Drawn0.step)⟩
  · rw [if_neg c2] at H
    have c2b0 : ((a0.size : Int) == 4) = false := beq_eq_false_iff_ne.mpr c2
    have c2b1 : ((a0.size : Int) != 4) = true := bne_iff_ne.mpr c2
    simp only [Option.some.injEq, Prod.mk.injEq] at H
    obtain ⟨rfl, rfl⟩ := H
    go_enter Try.func60, Try.ntmps60
    go_wp2
    go_ret2
    exact ⟨by first | rfl | (simp; done) | (simp [*]; done), by repeat (first | exact Drawn0.refl _ | apply Drawn0.step)⟩

-- NOT PRINTED: function 37 (timesyncref55_one)

-- NOT PRINTED: function 21 (timesyncref55_Apply)

-- NOT PRINTED: function 4 (timesynclaw55_FaultApplies)

end Go.Proofs.Ytcnckfhibmlioaa.PFa
