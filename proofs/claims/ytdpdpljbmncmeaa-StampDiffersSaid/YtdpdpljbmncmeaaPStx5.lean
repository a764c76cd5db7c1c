-- Printed for this claim by this session's turned copy of the print (wip/tools/xprint.sh)
import Derived.Test.YtdpdpljbmncmeaaPStx0
import Derived.Test.YtdpdpljbmncmeaaPStx2
import Derived.Test.YtdpdpljbmncmeaaPStx3
import Derived.Test.YtdpdpljbmncmeaaPStx4
namespace Go.Proofs.Ytdpdpljbmncmeaa.PSt
open Go.RowKit Go.Proofs.YtdpdpljbmncmeaaW.PrintWords Go.Proofs.YtdpdpljbmncmeaaW.PrintLast Go.Proofs.YtdpdpljbmncmeaaW.PrintMore
attribute [local go_sem] max2_int min2_int max_two min_two max_three min_three max_four min_four   -- for this text's walks alone
set_option linter.unusedVariables false
set_option linter.unusedSimpArgs false

/-! ### timesynclaw03_awake: function 18 -/
def timesynclaw03_awake.j0 : Nat → Bool → Option (Bool)
  | 0, _ => none
  | k + 1, x48 => if x48 = true then (some false) else ((stamp_Units.f k 1500000000).bind fun bt169 => ((stamp_Short.f k 1000000000).bind fun bt171 => ((stamp_Parse.f k (⟨#[48, 48, 48, 48, 48, 48, 48, 49, 46, 56, 48, 48, 48, 48, 48, 48, 48]⟩ : ByteArray)).bind fun bt173 => (if bt169.1 = 6442450944 then (if bt169.2 = true then ((stamp_Nanos.f k 1).bind fun t175 => (if t175 = 1 then ((stamp_Nanos.f k (-1)).bind fun t176 => (if t176 = 0 then (if bt171.1 = 65536 then (if bt171.2 = 0 then ((stamp_Long.f 1).bind fun t177 => (if t177 = 15259 then ((stamp_Diff.f 1 2).bind fun t178 => (if t178 = (-1) then ((stamp_Text.f k 6442450944).bind fun t179 => (if t179.toList = ([48, 48, 48, 48, 48, 48, 48, 49, 46, 56, 48, 48, 48, 48, 48, 48, 48] : List UInt8) then (if bt173.1 = 6442450944 then (some (bt173.2 == 0)) else (some false)) else (some false))) else (some false))) else (some false))) else (some false)) else (some false)) else (some false))) else (some false))) else (some false)) else (some false)))))
def timesynclaw03_awake.f (k : Nat)  : Option (Bool) := (stamp_Time.f k 6442450944 0).bind fun bt161 => ((stamp_Time.f k 6442450944 4294967296000000000).bind fun bt163 => ((stamp_Of.f k 1500000000).bind fun t165 => (if t165 = 6442450944 then ((stamp_Of.f k (-1)).bind fun t166 => (if t166 = 18446744073709551611 then ((stamp_Era.f (-1)).bind fun t167 => (if t167 = (-1) then ((stamp_Era.f 4294967296000000000).bind fun t168 => (if t168 = 1 then (if bt161.1 = 1500000000 then (if bt161.2 = 0 then (if bt163.1 = 4294967297500000000 then (timesynclaw03_awake.j0 k (bt163.2 != 0)) else (timesynclaw03_awake.j0 k true)) else (timesynclaw03_awake.j0 k true)) else (timesynclaw03_awake.j0 k true)) else (timesynclaw03_awake.j0 k true))) else (timesynclaw03_awake.j0 k true))) else (timesynclaw03_awake.j0 k true))) else (timesynclaw03_awake.j0 k true))))
theorem timesynclaw03_awake.mono_l : ∀ k, (∀ y0, LeO (timesynclaw03_awake.j0 k y0) (timesynclaw03_awake.j0 (k + 1) y0))
  | 0 => fun _ r h => by simp [timesynclaw03_awake.j0] at h
  | k + 1 => by
    have ih0 := timesynclaw03_awake.mono_l k
    · intro y0
      unfold timesynclaw03_awake.j0
      repeat' first
      | (with_reducible exact ih0 _)
      | (with_reducible exact stamp_Nanos.mono _ _)
      | (with_reducible exact stamp_Of.mono _ _)
      | (with_reducible exact stamp_Parse.mono _ _)
      | (with_reducible exact stamp_Short.mono _ _)
      | (with_reducible exact stamp_Text.mono _ _)
      | (with_reducible exact stamp_Time.mono _ _ _)
      | (with_reducible exact stamp_Units.mono _ _)
      | (with_reducible exact LeO.refl _)
      | (with_reducible exact LeO.none _)
      | (with_reducible refine LeO.ite ?_ ?_)
      | (with_reducible refine LeO.bind ?_ (fun _ => ?_))
      | exact ih0 _
      | exact stamp_Nanos.mono _ _
      | exact stamp_Of.mono _ _
      | exact stamp_Parse.mono _ _
      | exact stamp_Short.mono _ _
      | exact stamp_Text.mono _ _
      | exact stamp_Time.mono _ _ _
      | exact stamp_Units.mono _ _
      | exact LeO.none _
      | refine LeO.ite ?_ ?_
      | refine LeO.bind ?_ (fun _ => ?_)
theorem timesynclaw03_awake.mono : ∀ k, LeO (timesynclaw03_awake.f k ) (timesynclaw03_awake.f (k + 1) ) := by
  intro  k
  have ih0 := timesynclaw03_awake.mono_l k
  unfold timesynclaw03_awake.f
  repeat' first
      | (with_reducible exact ih0 _)
      | (with_reducible exact stamp_Nanos.mono _ _)
      | (with_reducible exact stamp_Of.mono _ _)
      | (with_reducible exact stamp_Parse.mono _ _)
      | (with_reducible exact stamp_Short.mono _ _)
      | (with_reducible exact stamp_Text.mono _ _)
      | (with_reducible exact stamp_Time.mono _ _ _)
      | (with_reducible exact stamp_Units.mono _ _)
      | (with_reducible exact LeO.refl _)
      | (with_reducible exact LeO.none _)
      | (with_reducible refine LeO.ite ?_ ?_)
      | (with_reducible refine LeO.bind ?_ (fun _ => ?_))
      | exact ih0 _
      | exact stamp_Nanos.mono _ _
      | exact stamp_Of.mono _ _
      | exact stamp_Parse.mono _ _
      | exact stamp_Short.mono _ _
      | exact stamp_Text.mono _ _
      | exact stamp_Time.mono _ _ _
      | exact stamp_Units.mono _ _
      | exact LeO.none _
      | refine LeO.ite ?_ ?_
      | refine LeO.bind ?_ (fun _ => ?_)
set_option maxHeartbeats 8000000 in
set_option maxRecDepth 100000 in
theorem timesynclaw03_awake.calls (k : Nat)  (r : Bool) (w : World) (h : timesynclaw03_awake.f k  = some r) :
    Calls Try.prog 18 #[] w fun e w' => e = .returned (.bool r) ∧ Below w.heap.size w w' := by
  have HB := Aside0.mk (Below.refl w.heap.size w)
  have H : ((stamp_Time.f k 6442450944 0).bind fun bt161 => ((stamp_Time.f k 6442450944 4294967296000000000).bind fun bt163 => ((stamp_Of.f k 1500000000).bind fun t165 => (if t165 = 6442450944 then ((stamp_Of.f k (-1)).bind fun t166 => (if t166 = 18446744073709551611 then ((stamp_Era.f (-1)).bind fun t167 => (if t167 = (-1) then ((stamp_Era.f 4294967296000000000).bind fun t168 => (if t168 = 1 then (if bt161.1 = 1500000000 then (if bt161.2 = 0 then (if bt163.1 = 4294967297500000000 then (timesynclaw03_awake.j0 k (bt163.2 != 0)) else (timesynclaw03_awake.j0 k true)) else (timesynclaw03_awake.j0 k true)) else (timesynclaw03_awake.j0 k true)) else (timesynclaw03_awake.j0 k true))) else (timesynclaw03_awake.j0 k true))) else (timesynclaw03_awake.j0 k true))) else (timesynclaw03_awake.j0 k true))))) = some r := h
  clear h
  replace H := Option.bind_eq_some_iff.mp H
  obtain ⟨⟨t161, t162⟩, A10, H⟩ := H
  replace H : ((stamp_Time.f k 6442450944 4294967296000000000).bind fun bt163 => ((stamp_Of.f k 1500000000).bind fun t165 => (if t165 = 6442450944 then ((stamp_Of.f k (-1)).bind fun t166 => (if t166 = 18446744073709551611 then ((stamp_Era.f (-1)).bind fun t167 => (if t167 = (-1) then ((stamp_Era.f 4294967296000000000).bind fun t168 => (if t168 = 1 then (if t161 = 1500000000 then (if t162 = 0 then (if bt163.1 = 4294967297500000000 then (timesynclaw03_awake.j0 k (bt163.2 != 0)) else (timesynclaw03_awake.j0 k true)) else (timesynclaw03_awake.j0 k true)) else (timesynclaw03_awake.j0 k true)) else (timesynclaw03_awake.j0 k true))) else (timesynclaw03_awake.j0 k true))) else (timesynclaw03_awake.j0 k true))) else (timesynclaw03_awake.j0 k true)))) = some r := H
  have A1 := Aside0.mk A10
  clear A10
  replace H := Option.bind_eq_some_iff.mp H
  obtain ⟨⟨t163, t164⟩, A20, H⟩ := H
  replace H : ((stamp_Of.f k 1500000000).bind fun t165 => (if t165 = 6442450944 then ((stamp_Of.f k (-1)).bind fun t166 => (if t166 = 18446744073709551611 then ((stamp_Era.f (-1)).bind fun t167 => (if t167 = (-1) then ((stamp_Era.f 4294967296000000000).bind fun t168 => (if t168 = 1 then (if t161 = 1500000000 then (if t162 = 0 then (if t163 = 4294967297500000000 then (timesynclaw03_awake.j0 k (t164 != 0)) else (timesynclaw03_awake.j0 k true)) else (timesynclaw03_awake.j0 k true)) else (timesynclaw03_awake.j0 k true)) else (timesynclaw03_awake.j0 k true))) else (timesynclaw03_awake.j0 k true))) else (timesynclaw03_awake.j0 k true))) else (timesynclaw03_awake.j0 k true))) = some r := H
  have A2 := Aside0.mk A20
  clear A20
  have HC3 := Aside0.mk H
  clear H
  go_enter Try.func18, Try.ntmps18
  go_upto_region 3 with (first | ((with_reducible refine gate_callee (f := 27) rfl ?_); refine goesL_ (some 12) rfl rfl Try.func27 (by kernel_rfl) rfl #[.int .u64 6442450944, .int .i64 0] rfl (by (try simp only [List.map_toArray, List.map_cons, List.map_nil]); first | done | rfl | (simp only [List.length_drop, List.length_take]; rfl)) ?_; (with_reducible refine (stamp_Time.calls k 6442450944 0 t161 t162 _ A1.out).mono ?_); rintro e w' ⟨rfl, ⟨nd, rfl⟩⟩; refine ⟨_, rfl, ?_⟩) | ((with_reducible refine gate_callee (f := 27) rfl ?_); refine goesL_ (some 16) rfl rfl Try.func27 (by kernel_rfl) rfl #[.int .u64 6442450944, .int .i64 4294967296000000000] rfl (by (try simp only [List.map_toArray, List.map_cons, List.map_nil]); first | done | rfl | (simp only [List.length_drop, List.length_take]; rfl)) ?_; (with_reducible refine (stamp_Time.calls k 6442450944 4294967296000000000 t163 t164 _ A2.out).mono ?_); rintro e w' ⟨rfl, ⟨nd, rfl⟩⟩; refine ⟨_, rfl, ?_⟩))
  (try simp only [Act.put, List.setIfInBounds_toArray, List.set_cons_zero, List.set_cons_succ])
  go_cut [48] (fun v48 wc => ∃ (kq : Nat) (x48_2 : Bool), v48 = .bool x48_2 ∧ Aside0 (timesynclaw03_awake.j0 kq x48_2 = some r) ∧ Aside0 (kq ≤ k) ∧ Aside0 (Below w.heap.size w wc))
  case first =>
    have H := HC3.out
    clear HC3
    replace H := Option.bind_eq_some_iff.mp H
    obtain ⟨t165, A40, H⟩ := H
    replace H : (if t165 = 6442450944 then ((stamp_Of.f k (-1)).bind fun t166 => (if t166 = 18446744073709551611 then ((stamp_Era.f (-1)).bind fun t167 => (if t167 = (-1) then ((stamp_Era.f 4294967296000000000).bind fun t168 => (if t168 = 1 then (if t161 = 1500000000 then (if t162 = 0 then (if t163 = 4294967297500000000 then (timesynclaw03_awake.j0 k (t164 != 0)) else (timesynclaw03_awake.j0 k true)) else (timesynclaw03_awake.j0 k true)) else (timesynclaw03_awake.j0 k true)) else (timesynclaw03_awake.j0 k true))) else (timesynclaw03_awake.j0 k true))) else (timesynclaw03_awake.j0 k true))) else (timesynclaw03_awake.j0 k true)) = some r := H
    have A4 := Aside0.mk A40
    clear A40
    by_cases c5 : t165 = 6442450944
    · rw [if_pos c5] at H
      have c5b0 : (t165 == 6442450944) = true := beq_iff_eq.mpr c5
      have c5b1 : (t165 != 6442450944) = false := bne_eq_false_iff_eq.mpr c5
      clear c5
      (first | rw [c5b0] | (simp only [i64_w, i32_w]; rw [c5b0]) | skip)
      replace H := Option.bind_eq_some_iff.mp H
      obtain ⟨t166, A60, H⟩ := H
      replace H : (if t166 = 18446744073709551611 then ((stamp_Era.f (-1)).bind fun t167 => (if t167 = (-1) then ((stamp_Era.f 4294967296000000000).bind fun t168 => (if t168 = 1 then (if t161 = 1500000000 then (if t162 = 0 then (if t163 = 4294967297500000000 then (timesynclaw03_awake.j0 k (t164 != 0)) else (timesynclaw03_awake.j0 k true)) else (timesynclaw03_awake.j0 k true)) else (timesynclaw03_awake.j0 k true)) else (timesynclaw03_awake.j0 k true))) else (timesynclaw03_awake.j0 k true))) else (timesynclaw03_awake.j0 k true)) = some r := H
      have A6 := Aside0.mk A60
      clear A60
      by_cases c7 : t166 = 18446744073709551611
      · rw [if_pos c7] at H
        have c7b0 : (t166 == 18446744073709551611) = true := beq_iff_eq.mpr c7
        have c7b1 : (t166 != 18446744073709551611) = false := bne_eq_false_iff_eq.mpr c7
        clear c7
        replace H := Option.bind_eq_some_iff.mp H
        obtain ⟨t167, A80, H⟩ := H
        replace H : (if t167 = (-1) then ((stamp_Era.f 4294967296000000000).bind fun t168 => (if t168 = 1 then (if t161 = 1500000000 then (if t162 = 0 then (if t163 = 4294967297500000000 then (timesynclaw03_awake.j0 k (t164 != 0)) else (timesynclaw03_awake.j0 k true)) else (timesynclaw03_awake.j0 k true)) else (timesynclaw03_awake.j0 k true)) else (timesynclaw03_awake.j0 k true))) else (timesynclaw03_awake.j0 k true)) = some r := H
        have A8 := Aside0.mk A80
        clear A80
        by_cases c9 : t167 = (-1)
        · rw [if_pos c9] at H
          have c9b0 : (t167 == (-1)) = true := beq_iff_eq.mpr c9
          have c9b1 : (t167 != (-1)) = false := bne_eq_false_iff_eq.mpr c9
          clear c9
          replace H := Option.bind_eq_some_iff.mp H
          obtain ⟨t168, A100, H⟩ := H
          replace H : (if t168 = 1 then (if t161 = 1500000000 then (if t162 = 0 then (if t163 = 4294967297500000000 then (timesynclaw03_awake.j0 k (t164 != 0)) else (timesynclaw03_awake.j0 k true)) else (timesynclaw03_awake.j0 k true)) else (timesynclaw03_awake.j0 k true)) else (timesynclaw03_awake.j0 k true)) = some r := H
          have A10 := Aside0.mk A100
          clear A100
          by_cases c11 : t168 = 1
          · rw [if_pos c11] at H
            have c11b0 : (t168 == 1) = true := beq_iff_eq.mpr c11
            have c11b1 : (t168 != 1) = false := bne_eq_false_iff_eq.mpr c11
            clear c11
            by_cases c12 : t161 = 1500000000
            · rw [if_pos c12] at H
              have c12b0 : (t161 == 1500000000) = true := beq_iff_eq.mpr c12
              have c12b1 : (t161 != 1500000000) = false := bne_eq_false_iff_eq.mpr c12
              clear c12
              by_cases c13 : t162 = 0
              · rw [if_pos c13] at H
                have c13b0 : (t162 == 0) = true := beq_iff_eq.mpr c13
                have c13b1 : (t162 != 0) = false := bne_eq_false_iff_eq.mpr c13
                clear c13
                by_cases c14 : t163 = 4294967297500000000
                · rw [if_pos c14] at H
                  have c14b0 : (t163 == 4294967297500000000) = true := beq_iff_eq.mpr c14
                  have c14b1 : (t163 != 4294967297500000000) = false := bne_eq_false_iff_eq.mpr c14
                  clear c14
                  have H' := Aside0.mk H
                  clear H
                  go_wp2_with (first | ((with_reducible refine gate_callee (f := 14) rfl ?_); refine goesL_ (some 19) rfl rfl Try.func14 (by kernel_rfl) rfl #[.int .i64 1500000000] rfl (by (try simp only [List.map_toArray, List.map_cons, List.map_nil]); first | done | rfl | (simp only [List.length_drop, List.length_take]; rfl)) ?_; (with_reducible refine (stamp_Of.calls k 1500000000 t165 _ A4.out).mono ?_); rintro e w' ⟨rfl, ⟨nd, rfl⟩⟩; refine ⟨_, rfl, ?_⟩) | (go_at_call 14; (with_reducible refine (stamp_Of.calls k (-1) t166 _ A6.out).mono ?_); rintro e w' ⟨rfl, ⟨nd, rfl⟩⟩) | (go_at_call 16; (with_reducible refine (stamp_Era.calls (-1) t167 _ A8.out).mono ?_); rintro e w' ⟨rfl, ⟨nd, rfl⟩⟩) | (go_at_call 16; (with_reducible refine (stamp_Era.calls 4294967296000000000 t168 _ A10.out).mono ?_); rintro e w' ⟨rfl, ⟨nd, rfl⟩⟩))
                  go_meet
                  case rel => exact ⟨_, ((t164 != 0)), (by first | rfl | (simp; done) | (simp [*]; done)), H', ⟨by first | omega | exact Nat.le_refl _⟩, ⟨by repeat (first | (with_reducible first | exact HB.out | apply below_alloc | apply pw_below_drewN | apply below_drew1) | exact HB.out)⟩⟩
                · rw [if_neg c14] at H
                  have c14b0 : (t163 == 4294967297500000000) = false := beq_eq_false_iff_ne.mpr c14
                  have c14b1 : (t163 != 4294967297500000000) = true := bne_iff_ne.mpr c14
                  have H' := Aside0.mk H
                  clear H
                  go_wp2_with (first | ((with_reducible refine gate_callee (f := 14) rfl ?_); refine goesL_ (some 19) rfl rfl Try.func14 (by kernel_rfl) rfl #[.int .i64 1500000000] rfl (by (try simp only [List.map_toArray, List.map_cons, List.map_nil]); first | done | rfl | (simp only [List.length_drop, List.length_take]; rfl)) ?_; (with_reducible refine (stamp_Of.calls k 1500000000 t165 _ A4.out).mono ?_); rintro e w' ⟨rfl, ⟨nd, rfl⟩⟩; refine ⟨_, rfl, ?_⟩) | (go_at_call 14; (with_reducible refine (stamp_Of.calls k (-1) t166 _ A6.out).mono ?_); rintro e w' ⟨rfl, ⟨nd, rfl⟩⟩) | (go_at_call 16; (with_reducible refine (stamp_Era.calls (-1) t167 _ A8.out).mono ?_); rintro e w' ⟨rfl, ⟨nd, rfl⟩⟩) | (go_at_call 16; (with_reducible refine (stamp_Era.calls 4294967296000000000 t168 _ A10.out).mono ?_); rintro e w' ⟨rfl, ⟨nd, rfl⟩⟩))
                  go_meet
                  case rel => exact ⟨_, (true), (by first | rfl | (simp; done) | (simp [*]; done)), H', ⟨by first | omega | exact Nat.le_refl _⟩, ⟨by repeat (first | (with_reducible first | exact HB.out | apply below_alloc | apply pw_below_drewN | apply below_drew1) | exact HB.out)⟩⟩
              · rw [if_neg c13] at H
                have c13b0 : (t162 == 0) = false := beq_eq_false_iff_ne.mpr c13
                have c13b1 : (t162 != 0) = true := bne_iff_ne.mpr c13
                have H' := Aside0.mk H
                clear H
                go_wp2_with (first | ((with_reducible refine gate_callee (f := 14) rfl ?_); refine goesL_ (some 19) rfl rfl Try.func14 (by kernel_rfl) rfl #[.int .i64 1500000000] rfl (by (try simp only [List.map_toArray, List.map_cons, List.map_nil]); first | done | rfl | (simp only [List.length_drop, List.length_take]; rfl)) ?_; (with_reducible refine (stamp_Of.calls k 1500000000 t165 _ A4.out).mono ?_); rintro e w' ⟨rfl, ⟨nd, rfl⟩⟩; refine ⟨_, rfl, ?_⟩) | (go_at_call 14; (with_reducible refine (stamp_Of.calls k (-1) t166 _ A6.out).mono ?_); rintro e w' ⟨rfl, ⟨nd, rfl⟩⟩) | (go_at_call 16; (with_reducible refine (stamp_Era.calls (-1) t167 _ A8.out).mono ?_); rintro e w' ⟨rfl, ⟨nd, rfl⟩⟩) | (go_at_call 16; (with_reducible refine (stamp_Era.calls 4294967296000000000 t168 _ A10.out).mono ?_); rintro e w' ⟨rfl, ⟨nd, rfl⟩⟩))
                go_meet
                case rel => exact ⟨_, (true), (by first | rfl | (simp; done) | (simp [*]; done)), H', ⟨by first | omega | exact Nat.le_refl _⟩, ⟨by repeat (first | (with_reducible first | exact HB.out | apply below_alloc | apply pw_below_drewN | apply below_drew1) | exact HB.out)⟩⟩
            · rw [if_neg c12] at H
              have c12b0 : (t161 == 1500000000) = false := beq_eq_false_iff_ne.mpr c12
              have c12b1 : (t161 != 1500000000) = true := bne_iff_ne.mpr c12
              have H' := Aside0.mk H
              clear H
              go_wp2_with (first | ((with_reducible refine gate_callee (f := 14) rfl ?_); refine goesL_ (some 19) rfl rfl Try.func14 (by kernel_rfl) rfl #[.int .i64 1500000000] rfl (by (try simp only [List.map_toArray, List.map_cons, List.map_nil]); first | done | rfl | (simp only [List.length_drop, List.length_take]; rfl)) ?_; (with_reducible refine (stamp_Of.calls k 1500000000 t165 _ A4.out).mono ?_); rintro e w' ⟨rfl, ⟨nd, rfl⟩⟩; refine ⟨_, rfl, ?_⟩) | (go_at_call 14; (with_reducible refine (stamp_Of.calls k (-1) t166 _ A6.out).mono ?_); rintro e w' ⟨rfl, ⟨nd, rfl⟩⟩) | (go_at_call 16; (with_reducible refine (stamp_Era.calls (-1) t167 _ A8.out).mono ?_); rintro e w' ⟨rfl, ⟨nd, rfl⟩⟩) | (go_at_call 16; (with_reducible refine (stamp_Era.calls 4294967296000000000 t168 _ A10.out).mono ?_); rintro e w' ⟨rfl, ⟨nd, rfl⟩⟩))
              go_meet
              case rel => exact ⟨_, (true), (by first | rfl | (simp; done) | (simp [*]; done)), H', ⟨by first | omega | exact Nat.le_refl _⟩, ⟨by repeat (first | (with_reducible first | exact HB.out | apply below_alloc | apply pw_below_drewN | apply below_drew1) | exact HB.out)⟩⟩
          · rw [if_neg c11] at H
            have c11b0 : (t168 == 1) = false := beq_eq_false_iff_ne.mpr c11
            have c11b1 : (t168 != 1) = true := bne_iff_ne.mpr c11
            have H' := Aside0.mk H
            clear H
            go_wp2_with (first | ((with_reducible refine gate_callee (f := 14) rfl ?_); refine goesL_ (some 19) rfl rfl Try.func14 (by kernel_rfl) rfl #[.int .i64 1500000000] rfl (by (try simp only [List.map_toArray, List.map_cons, List.map_nil]); first | done | rfl | (simp only [List.length_drop, List.length_take]; rfl)) ?_; (with_reducible refine (stamp_Of.calls k 1500000000 t165 _ A4.out).mono ?_); rintro e w' ⟨rfl, ⟨nd, rfl⟩⟩; refine ⟨_, rfl, ?_⟩) | (go_at_call 14; (with_reducible refine (stamp_Of.calls k (-1) t166 _ A6.out).mono ?_); rintro e w' ⟨rfl, ⟨nd, rfl⟩⟩) | (go_at_call 16; (with_reducible refine (stamp_Era.calls (-1) t167 _ A8.out).mono ?_); rintro e w' ⟨rfl, ⟨nd, rfl⟩⟩) | (go_at_call 16; (with_reducible refine (stamp_Era.calls 4294967296000000000 t168 _ A10.out).mono ?_); rintro e w' ⟨rfl, ⟨nd, rfl⟩⟩))
            go_meet
            case rel => exact ⟨_, (true), (by first | rfl | (simp; done) | (simp [*]; done)), H', ⟨by first | omega | exact Nat.le_refl _⟩, ⟨by repeat (first | (with_reducible first | exact HB.out | apply below_alloc | apply pw_below_drewN | apply below_drew1) | exact HB.out)⟩⟩
        · rw [if_neg c9] at H
          have c9b0 : (t167 == (-1)) = false := beq_eq_false_iff_ne.mpr c9
          have c9b1 : (t167 != (-1)) = true := bne_iff_ne.mpr c9
          have H' := Aside0.mk H
          clear H
          go_wp2_with (first | ((with_reducible refine gate_callee (f := 14) rfl ?_); refine goesL_ (some 19) rfl rfl Try.func14 (by kernel_rfl) rfl #[.int .i64 1500000000] rfl (by (try simp only [List.map_toArray, List.map_cons, List.map_nil]); first | done | rfl | (simp only [List.length_drop, List.length_take]; rfl)) ?_; (with_reducible refine (stamp_Of.calls k 1500000000 t165 _ A4.out).mono ?_); rintro e w' ⟨rfl, ⟨nd, rfl⟩⟩; refine ⟨_, rfl, ?_⟩) | (go_at_call 14; (with_reducible refine (stamp_Of.calls k (-1) t166 _ A6.out).mono ?_); rintro e w' ⟨rfl, ⟨nd, rfl⟩⟩) | (go_at_call 16; (with_reducible refine (stamp_Era.calls (-1) t167 _ A8.out).mono ?_); rintro e w' ⟨rfl, ⟨nd, rfl⟩⟩))
          go_meet
          case rel => exact ⟨_, (true), (by first | rfl | (simp; done) | (simp [*]; done)), H', ⟨by first | omega | exact Nat.le_refl _⟩, ⟨by repeat (first | (with_reducible first | exact HB.out | apply below_alloc | apply pw_below_drewN | apply below_drew1) | exact HB.out)⟩⟩
      · rw [if_neg c7] at H
        have c7b0 : (t166 == 18446744073709551611) = false := beq_eq_false_iff_ne.mpr c7
        have c7b1 : (t166 != 18446744073709551611) = true := bne_iff_ne.mpr c7
        have H' := Aside0.mk H
        clear H
        go_wp2_with (first | ((with_reducible refine gate_callee (f := 14) rfl ?_); refine goesL_ (some 19) rfl rfl Try.func14 (by kernel_rfl) rfl #[.int .i64 1500000000] rfl (by (try simp only [List.map_toArray, List.map_cons, List.map_nil]); first | done | rfl | (simp only [List.length_drop, List.length_take]; rfl)) ?_; (with_reducible refine (stamp_Of.calls k 1500000000 t165 _ A4.out).mono ?_); rintro e w' ⟨rfl, ⟨nd, rfl⟩⟩; refine ⟨_, rfl, ?_⟩) | (go_at_call 14; (with_reducible refine (stamp_Of.calls k (-1) t166 _ A6.out).mono ?_); rintro e w' ⟨rfl, ⟨nd, rfl⟩⟩))
        go_meet
        case rel => exact ⟨_, (true), (by first | rfl | (simp; done) | (simp [*]; done)), H', ⟨by first | omega | exact Nat.le_refl _⟩, ⟨by repeat (first | (with_reducible first | exact HB.out | apply below_alloc | apply pw_below_drewN | apply below_drew1) | exact HB.out)⟩⟩
    · rw [if_neg c5] at H
      have c5b0 : (t165 == 6442450944) = false := beq_eq_false_iff_ne.mpr c5
      have c5b1 : (t165 != 6442450944) = true := bne_iff_ne.mpr c5
      (first | rw [c5b0] | (simp only [i64_w, i32_w]; rw [c5b0]) | skip)
      have H' := Aside0.mk H
      clear H
      go_wp2_with (first | ((with_reducible refine gate_callee (f := 14) rfl ?_); refine goesL_ (some 19) rfl rfl Try.func14 (by kernel_rfl) rfl #[.int .i64 1500000000] rfl (by (try simp only [List.map_toArray, List.map_cons, List.map_nil]); first | done | rfl | (simp only [List.length_drop, List.length_take]; rfl)) ?_; (with_reducible refine (stamp_Of.calls k 1500000000 t165 _ A4.out).mono ?_); rintro e w' ⟨rfl, ⟨nd, rfl⟩⟩; refine ⟨_, rfl, ?_⟩))
      go_meet
      case rel => exact ⟨_, (true), (by first | rfl | (simp; done) | (simp [*]; done)), H', ⟨by first | omega | exact Nat.le_refl _⟩, ⟨by repeat (first | (with_reducible first | exact HB.out | apply below_alloc | apply pw_below_drewN | apply below_drew1) | exact HB.out)⟩⟩
  case rest =>
    clear HC3
    try clear c1
    try clear c2
    try clear p2
    try clear c5
    try clear c5b0
    try clear c5b1
    try clear c7
    try clear c7b0
    try clear c7b1
    try clear c9
    try clear c9b0
    try clear c9b1
    try clear c11
    try clear c11b0
    try clear c11b1
    try clear c12
    try clear c12b0
    try clear c12b1
    try clear c13
    try clear c13b0
    try clear c13b1
    try clear c14
    try clear c14b0
    try clear c14b1
    obtain ⟨kq, x48_2, rfl, HA, HJ2, HB⟩ := hcut
    cases kq with
    | zero => exact absurd HA.out (by simp [timesynclaw03_awake.j0])
    | succ kj2 =>
      have H := HA.out
      clear HA
      simp only [timesynclaw03_awake.j0] at H
      by_cases c15 : x48_2 = true
      · subst c15
        have H1 : (some false) = some r := by rw [if_pos rfl] at H; exact H
        clear H
        have H := H1
        clear H1
        obtain rfl := Option.some.inj H
        go_wp2
        go_ret
        exact ⟨by first | rfl | (simp [errW_none, errW_some] <;> rfl) | (simp [*, errW_none, errW_some] <;> rfl), by repeat (first | (with_reducible first | exact HB.out | apply below_alloc | apply pw_below_drewN | apply below_drew1) | exact HB.out)⟩
      · replace c15 := Bool.eq_false_iff.mpr c15
        subst c15
        have H1 : ((stamp_Units.f kj2 1500000000).bind fun bt169 => ((stamp_Short.f kj2 1000000000).bind fun bt171 => ((stamp_Parse.f kj2 (⟨#[48, 48, 48, 48, 48, 48, 48, 49, 46, 56, 48, 48, 48, 48, 48, 48, 48]⟩ : ByteArray)).bind fun bt173 => (if bt169.1 = 6442450944 then (if bt169.2 = true then ((stamp_Nanos.f kj2 1).bind fun t175 => (if t175 = 1 then ((stamp_Nanos.f kj2 (-1)).bind fun t176 => (if t176 = 0 then (if bt171.1 = 65536 then (if bt171.2 = 0 then ((stamp_Long.f 1).bind fun t177 => (if t177 = 15259 then ((stamp_Diff.f 1 2).bind fun t178 => (if t178 = (-1) then ((stamp_Text.f kj2 6442450944).bind fun t179 => (if t179.toList = ([48, 48, 48, 48, 48, 48, 48, 49, 46, 56, 48, 48, 48, 48, 48, 48, 48] : List UInt8) then (if bt173.1 = 6442450944 then (some (bt173.2 == 0)) else (some false)) else (some false))) else (some false))) else (some false))) else (some false)) else (some false)) else (some false))) else (some false))) else (some false)) else (some false))))) = some r := by rw [if_neg (show ¬ (false = true) by decide)] at H; exact H
        clear H
        have H := H1
        clear H1
        replace H := Option.bind_eq_some_iff.mp H
        obtain ⟨⟨t169, t170⟩, A160, H⟩ := H
        replace H : ((stamp_Short.f kj2 1000000000).bind fun bt171 => ((stamp_Parse.f kj2 (⟨#[48, 48, 48, 48, 48, 48, 48, 49, 46, 56, 48, 48, 48, 48, 48, 48, 48]⟩ : ByteArray)).bind fun bt173 => (if t169 = 6442450944 then (if t170 = true then ((stamp_Nanos.f kj2 1).bind fun t175 => (if t175 = 1 then ((stamp_Nanos.f kj2 (-1)).bind fun t176 => (if t176 = 0 then (if bt171.1 = 65536 then (if bt171.2 = 0 then ((stamp_Long.f 1).bind fun t177 => (if t177 = 15259 then ((stamp_Diff.f 1 2).bind fun t178 => (if t178 = (-1) then ((stamp_Text.f kj2 6442450944).bind fun t179 => (if t179.toList = ([48, 48, 48, 48, 48, 48, 48, 49, 46, 56, 48, 48, 48, 48, 48, 48, 48] : List UInt8) then (if bt173.1 = 6442450944 then (some (bt173.2 == 0)) else (some false)) else (some false))) else (some false))) else (some false))) else (some false)) else (some false)) else (some false))) else (some false))) else (some false)) else (some false)))) = some r := H
        have A16 := Aside0.mk A160
        clear A160
        replace H := Option.bind_eq_some_iff.mp H
        obtain ⟨⟨t171, t172⟩, A170, H⟩ := H
        replace H : ((stamp_Parse.f kj2 (⟨#[48, 48, 48, 48, 48, 48, 48, 49, 46, 56, 48, 48, 48, 48, 48, 48, 48]⟩ : ByteArray)).bind fun bt173 => (if t169 = 6442450944 then (if t170 = true then ((stamp_Nanos.f kj2 1).bind fun t175 => (if t175 = 1 then ((stamp_Nanos.f kj2 (-1)).bind fun t176 => (if t176 = 0 then (if t171 = 65536 then (if t172 = 0 then ((stamp_Long.f 1).bind fun t177 => (if t177 = 15259 then ((stamp_Diff.f 1 2).bind fun t178 => (if t178 = (-1) then ((stamp_Text.f kj2 6442450944).bind fun t179 => (if t179.toList = ([48, 48, 48, 48, 48, 48, 48, 49, 46, 56, 48, 48, 48, 48, 48, 48, 48] : List UInt8) then (if bt173.1 = 6442450944 then (some (bt173.2 == 0)) else (some false)) else (some false))) else (some false))) else (some false))) else (some false)) else (some false)) else (some false))) else (some false))) else (some false)) else (some false))) = some r := H
        have A17 := Aside0.mk A170
        clear A170
        replace H := Option.bind_eq_some_iff.mp H
        obtain ⟨⟨t173, t174⟩, A180, H⟩ := H
        replace H : (if t169 = 6442450944 then (if t170 = true then ((stamp_Nanos.f kj2 1).bind fun t175 => (if t175 = 1 then ((stamp_Nanos.f kj2 (-1)).bind fun t176 => (if t176 = 0 then (if t171 = 65536 then (if t172 = 0 then ((stamp_Long.f 1).bind fun t177 => (if t177 = 15259 then ((stamp_Diff.f 1 2).bind fun t178 => (if t178 = (-1) then ((stamp_Text.f kj2 6442450944).bind fun t179 => (if t179.toList = ([48, 48, 48, 48, 48, 48, 48, 49, 46, 56, 48, 48, 48, 48, 48, 48, 48] : List UInt8) then (if t173 = 6442450944 then (some (t174 == 0)) else (some false)) else (some false))) else (some false))) else (some false))) else (some false)) else (some false)) else (some false))) else (some false))) else (some false)) else (some false)) = some r := H
        have A18 := Aside0.mk A180
        clear A180
        by_cases c19 : t169 = 6442450944
        · rw [if_pos c19] at H
          have c19b0 : (t169 == 6442450944) = true := beq_iff_eq.mpr c19
          have c19b1 : (t169 != 6442450944) = false := bne_eq_false_iff_eq.mpr c19
          clear c19
          by_cases c20 : t170 = true
          · subst c20
            have H1 : ((stamp_Nanos.f kj2 1).bind fun t175 => (if t175 = 1 then ((stamp_Nanos.f kj2 (-1)).bind fun t176 => (if t176 = 0 then (if t171 = 65536 then (if t172 = 0 then ((stamp_Long.f 1).bind fun t177 => (if t177 = 15259 then ((stamp_Diff.f 1 2).bind fun t178 => (if t178 = (-1) then ((stamp_Text.f kj2 6442450944).bind fun t179 => (if t179.toList = ([48, 48, 48, 48, 48, 48, 48, 49, 46, 56, 48, 48, 48, 48, 48, 48, 48] : List UInt8) then (if t173 = 6442450944 then (some (t174 == 0)) else (some false)) else (some false))) else (some false))) else (some false))) else (some false)) else (some false)) else (some false))) else (some false))) = some r := by rw [if_pos rfl] at H; exact H
            clear H
            have H := H1
            clear H1
            replace H := Option.bind_eq_some_iff.mp H
            obtain ⟨t175, A210, H⟩ := H
            replace H : (if t175 = 1 then ((stamp_Nanos.f kj2 (-1)).bind fun t176 => (if t176 = 0 then (if t171 = 65536 then (if t172 = 0 then ((stamp_Long.f 1).bind fun t177 => (if t177 = 15259 then ((stamp_Diff.f 1 2).bind fun t178 => (if t178 = (-1) then ((stamp_Text.f kj2 6442450944).bind fun t179 => (if t179.toList = ([48, 48, 48, 48, 48, 48, 48, 49, 46, 56, 48, 48, 48, 48, 48, 48, 48] : List UInt8) then (if t173 = 6442450944 then (some (t174 == 0)) else (some false)) else (some false))) else (some false))) else (some false))) else (some false)) else (some false)) else (some false))) else (some false)) = some r := H
            have A21 := Aside0.mk A210
            clear A210
            by_cases c22 : t175 = 1
            · rw [if_pos c22] at H
              have c22b0 : (t175 == 1) = true := beq_iff_eq.mpr c22
              have c22b1 : (t175 != 1) = false := bne_eq_false_iff_eq.mpr c22
              clear c22
              replace H := Option.bind_eq_some_iff.mp H
              obtain ⟨t176, A230, H⟩ := H
              replace H : (if t176 = 0 then (if t171 = 65536 then (if t172 = 0 then ((stamp_Long.f 1).bind fun t177 => (if t177 = 15259 then ((stamp_Diff.f 1 2).bind fun t178 => (if t178 = (-1) then ((stamp_Text.f kj2 6442450944).bind fun t179 => (if t179.toList = ([48, 48, 48, 48, 48, 48, 48, 49, 46, 56, 48, 48, 48, 48, 48, 48, 48] : List UInt8) then (if t173 = 6442450944 then (some (t174 == 0)) else (some false)) else (some false))) else (some false))) else (some false))) else (some false)) else (some false)) else (some false)) = some r := H
              have A23 := Aside0.mk A230
              clear A230
              by_cases c24 : t176 = 0
              · rw [if_pos c24] at H
                have c24b0 : (t176 == 0) = true := beq_iff_eq.mpr c24
                have c24b1 : (t176 != 0) = false := bne_eq_false_iff_eq.mpr c24
                clear c24
                by_cases c25 : t171 = 65536
                · rw [if_pos c25] at H
                  have c25b0 : (t171 == 65536) = true := beq_iff_eq.mpr c25
                  have c25b1 : (t171 != 65536) = false := bne_eq_false_iff_eq.mpr c25
                  clear c25
                  by_cases c26 : t172 = 0
                  · rw [if_pos c26] at H
                    have c26b0 : (t172 == 0) = true := beq_iff_eq.mpr c26
                    have c26b1 : (t172 != 0) = false := bne_eq_false_iff_eq.mpr c26
                    clear c26
                    replace H := Option.bind_eq_some_iff.mp H
                    obtain ⟨t177, A270, H⟩ := H
                    replace H : (if t177 = 15259 then ((stamp_Diff.f 1 2).bind fun t178 => (if t178 = (-1) then ((stamp_Text.f kj2 6442450944).bind fun t179 => (if t179.toList = ([48, 48, 48, 48, 48, 48, 48, 49, 46, 56, 48, 48, 48, 48, 48, 48, 48] : List UInt8) then (if t173 = 6442450944 then (some (t174 == 0)) else (some false)) else (some false))) else (some false))) else (some false)) = some r := H
                    have A27 := Aside0.mk A270
                    clear A270
                    by_cases c28 : t177 = 15259
                    · rw [if_pos c28] at H
                      have c28b0 : (t177 == 15259) = true := beq_iff_eq.mpr c28
                      have c28b1 : (t177 != 15259) = false := bne_eq_false_iff_eq.mpr c28
                      clear c28
                      replace H := Option.bind_eq_some_iff.mp H
                      obtain ⟨t178, A290, H⟩ := H
                      replace H : (if t178 = (-1) then ((stamp_Text.f kj2 6442450944).bind fun t179 => (if t179.toList = ([48, 48, 48, 48, 48, 48, 48, 49, 46, 56, 48, 48, 48, 48, 48, 48, 48] : List UInt8) then (if t173 = 6442450944 then (some (t174 == 0)) else (some false)) else (some false))) else (some false)) = some r := H
                      have A29 := Aside0.mk A290
                      clear A290
                      by_cases c30 : t178 = (-1)
                      · rw [if_pos c30] at H
                        have c30b0 : (t178 == (-1)) = true := beq_iff_eq.mpr c30
                        have c30b1 : (t178 != (-1)) = false := bne_eq_false_iff_eq.mpr c30
                        clear c30
                        replace H := Option.bind_eq_some_iff.mp H
                        obtain ⟨t179, A310, H⟩ := H
                        replace H : (if t179.toList = ([48, 48, 48, 48, 48, 48, 48, 49, 46, 56, 48, 48, 48, 48, 48, 48, 48] : List UInt8) then (if t173 = 6442450944 then (some (t174 == 0)) else (some false)) else (some false)) = some r := H
                        have A31 := Aside0.mk A310
                        clear A310
                        by_cases c32 : t179.toList = ([48, 48, 48, 48, 48, 48, 48, 49, 46, 56, 48, 48, 48, 48, 48, 48, 48] : List UInt8)
                        · rw [if_pos c32] at H
                          have c32b0 : (t179.toList == ([48, 48, 48, 48, 48, 48, 48, 49, 46, 56, 48, 48, 48, 48, 48, 48, 48] : List UInt8)) = true := beq_iff_eq.mpr c32
                          have c32b1 : (t179.toList != ([48, 48, 48, 48, 48, 48, 48, 49, 46, 56, 48, 48, 48, 48, 48, 48, 48] : List UInt8)) = false := bne_eq_false_iff_eq.mpr c32
                          clear c32
                          by_cases c33 : t173 = 6442450944
                          · rw [if_pos c33] at H
                            have c33b0 : (t173 == 6442450944) = true := beq_iff_eq.mpr c33
                            have c33b1 : (t173 != 6442450944) = false := bne_eq_false_iff_eq.mpr c33
                            clear c33
                            obtain rfl := Option.some.inj H
                            go_wp2_with (first | ((with_reducible refine gate_callee (f := 39) rfl ?_); refine goesL_ (some 50) rfl rfl Try.func39 (by kernel_rfl) rfl #[.int .i64 1500000000] rfl (by (try simp only [List.map_toArray, List.map_cons, List.map_nil]); first | done | rfl | (simp only [List.length_drop, List.length_take]; rfl)) ?_; (with_reducible refine (stamp_Units.calls kj2 1500000000 t169 true _ A16.out).mono ?_); rintro e w' ⟨rfl, ⟨nd, rfl⟩⟩; refine ⟨_, rfl, ?_⟩) | ((with_reducible refine gate_callee (f := 43) rfl ?_); refine goesL_ (some 54) rfl rfl Try.func43 (by kernel_rfl) rfl #[.int .i64 1000000000] rfl (by (try simp only [List.map_toArray, List.map_cons, List.map_nil]); first | done | rfl | (simp only [List.length_drop, List.length_take]; rfl)) ?_; (with_reducible refine (stamp_Short.calls kj2 1000000000 t171 t172 _ A17.out).mono ?_); rintro e w' ⟨rfl, ⟨nd, rfl⟩⟩; refine ⟨_, rfl, ?_⟩) | ((with_reducible refine gate_callee (f := 47) rfl ?_); refine goesL_ (some 58) rfl rfl Try.func47 (by kernel_rfl) rfl #[.string (⟨#[48, 48, 48, 48, 48, 48, 48, 49, 46, 56, 48, 48, 48, 48, 48, 48, 48]⟩ : ByteArray)] rfl (by (try simp only [List.map_toArray, List.map_cons, List.map_nil]); first | done | rfl | (simp only [List.length_drop, List.length_take]; rfl)) ?_; (with_reducible refine (stamp_Parse.calls kj2 (⟨#[48, 48, 48, 48, 48, 48, 48, 49, 46, 56, 48, 48, 48, 48, 48, 48, 48]⟩ : ByteArray) t173 t174 _ A18.out).mono ?_); rintro e w' ⟨rfl, ⟨nd, rfl⟩⟩; refine ⟨_, rfl, ?_⟩) | (go_at_call 41; (with_reducible refine (stamp_Nanos.calls kj2 1 t175 _ A21.out).mono ?_); rintro e w' ⟨rfl, ⟨nd, rfl⟩⟩) | (go_at_call 41; (with_reducible refine (stamp_Nanos.calls kj2 (-1) t176 _ A23.out).mono ?_); rintro e w' ⟨rfl, ⟨nd, rfl⟩⟩) | (go_at_call 45; (with_reducible refine (stamp_Long.calls 1 t177 _ A27.out).mono ?_); rintro e w' ⟨rfl, ⟨nd, rfl⟩⟩) | (go_at_call 31; (with_reducible refine (stamp_Diff.calls 1 2 t178 _ A29.out).mono ?_); rintro e w' ⟨rfl, ⟨nd, rfl⟩⟩) | (go_at_call 49; (with_reducible refine (stamp_Text.calls kj2 6442450944 t179 _ A31.out).mono ?_); rintro e w34 ⟨rfl, hb⟩; have n0_ := Aside0.mk (below_step (by repeat (first | (with_reducible first | exact HB.out | apply below_alloc | apply pw_below_drewN | apply below_drew1) | exact HB.out)) hb); clear HB; have HB := n0_; clear n0_; (try clear hb); (try clear hb2); (try clear hk); (try clear hi)))
                            go_ret
                            exact ⟨by first | rfl | (simp [errW_none, errW_some] <;> rfl) | (simp [*, errW_none, errW_some] <;> rfl), by repeat (first | (with_reducible first | exact HB.out | apply below_alloc | apply pw_below_drewN | apply below_drew1) | exact HB.out)⟩
                          · rw [if_neg c33] at H
                            have c33b0 : (t173 == 6442450944) = false := beq_eq_false_iff_ne.mpr c33
                            have c33b1 : (t173 != 6442450944) = true := bne_iff_ne.mpr c33
                            obtain rfl := Option.some.inj H
                            go_wp2_with (first | ((with_reducible refine gate_callee (f := 39) rfl ?_); refine goesL_ (some 50) rfl rfl Try.func39 (by kernel_rfl) rfl #[.int .i64 1500000000] rfl (by (try simp only [List.map_toArray, List.map_cons, List.map_nil]); first | done | rfl | (simp only [List.length_drop, List.length_take]; rfl)) ?_; (with_reducible refine (stamp_Units.calls kj2 1500000000 t169 true _ A16.out).mono ?_); rintro e w' ⟨rfl, ⟨nd, rfl⟩⟩; refine ⟨_, rfl, ?_⟩) | ((with_reducible refine gate_callee (f := 43) rfl ?_); refine goesL_ (some 54) rfl rfl Try.func43 (by kernel_rfl) rfl #[.int .i64 1000000000] rfl (by (try simp only [List.map_toArray, List.map_cons, List.map_nil]); first | done | rfl | (simp only [List.length_drop, List.length_take]; rfl)) ?_; (with_reducible refine (stamp_Short.calls kj2 1000000000 t171 t172 _ A17.out).mono ?_); rintro e w' ⟨rfl, ⟨nd, rfl⟩⟩; refine ⟨_, rfl, ?_⟩) | ((with_reducible refine gate_callee (f := 47) rfl ?_); refine goesL_ (some 58) rfl rfl Try.func47 (by kernel_rfl) rfl #[.string (⟨#[48, 48, 48, 48, 48, 48, 48, 49, 46, 56, 48, 48, 48, 48, 48, 48, 48]⟩ : ByteArray)] rfl (by (try simp only [List.map_toArray, List.map_cons, List.map_nil]); first | done | rfl | (simp only [List.length_drop, List.length_take]; rfl)) ?_; (with_reducible refine (stamp_Parse.calls kj2 (⟨#[48, 48, 48, 48, 48, 48, 48, 49, 46, 56, 48, 48, 48, 48, 48, 48, 48]⟩ : ByteArray) t173 t174 _ A18.out).mono ?_); rintro e w' ⟨rfl, ⟨nd, rfl⟩⟩; refine ⟨_, rfl, ?_⟩) | (go_at_call 41; (with_reducible refine (stamp_Nanos.calls kj2 1 t175 _ A21.out).mono ?_); rintro e w' ⟨rfl, ⟨nd, rfl⟩⟩) | (go_at_call 41; (with_reducible refine (stamp_Nanos.calls kj2 (-1) t176 _ A23.out).mono ?_); rintro e w' ⟨rfl, ⟨nd, rfl⟩⟩) | (go_at_call 45; (with_reducible refine (stamp_Long.calls 1 t177 _ A27.out).mono ?_); rintro e w' ⟨rfl, ⟨nd, rfl⟩⟩) | (go_at_call 31; (with_reducible refine (stamp_Diff.calls 1 2 t178 _ A29.out).mono ?_); rintro e w' ⟨rfl, ⟨nd, rfl⟩⟩) | (go_at_call 49; (with_reducible refine (stamp_Text.calls kj2 6442450944 t179 _ A31.out).mono ?_); rintro e w35 ⟨rfl, hb⟩; have n0_ := Aside0.mk (below_step (by repeat (first | (with_reducible first | exact HB.out | apply below_alloc | apply pw_below_drewN | apply below_drew1) | exact HB.out)) hb); clear HB; have HB := n0_; clear n0_; (try clear hb); (try clear hb2); (try clear hk); (try clear hi)))
                            go_ret
                            exact ⟨by first | rfl | (simp [errW_none, errW_some] <;> rfl) | (simp [*, errW_none, errW_some] <;> rfl), by repeat (first | (with_reducible first | exact HB.out | apply below_alloc | apply pw_below_drewN | apply below_drew1) | exact HB.out)⟩
                        · rw [if_neg c32] at H
                          have c32b0 : (t179.toList == ([48, 48, 48, 48, 48, 48, 48, 49, 46, 56, 48, 48, 48, 48, 48, 48, 48] : List UInt8)) = false := beq_eq_false_iff_ne.mpr c32
                          have c32b1 : (t179.toList != ([48, 48, 48, 48, 48, 48, 48, 49, 46, 56, 48, 48, 48, 48, 48, 48, 48] : List UInt8)) = true := bne_iff_ne.mpr c32
                          obtain rfl := Option.some.inj H
                          go_wp2_with (first | ((with_reducible refine gate_callee (f := 39) rfl ?_); refine goesL_ (some 50) rfl rfl Try.func39 (by kernel_rfl) rfl #[.int .i64 1500000000] rfl (by (try simp only [List.map_toArray, List.map_cons, List.map_nil]); first | done | rfl | (simp only [List.length_drop, List.length_take]; rfl)) ?_; (with_reducible refine (stamp_Units.calls kj2 1500000000 t169 true _ A16.out).mono ?_); rintro e w' ⟨rfl, ⟨nd, rfl⟩⟩; refine ⟨_, rfl, ?_⟩) | ((with_reducible refine gate_callee (f := 43) rfl ?_); refine goesL_ (some 54) rfl rfl Try.func43 (by kernel_rfl) rfl #[.int .i64 1000000000] rfl (by (try simp only [List.map_toArray, List.map_cons, List.map_nil]); first | done | rfl | (simp only [List.length_drop, List.length_take]; rfl)) ?_; (with_reducible refine (stamp_Short.calls kj2 1000000000 t171 t172 _ A17.out).mono ?_); rintro e w' ⟨rfl, ⟨nd, rfl⟩⟩; refine ⟨_, rfl, ?_⟩) | ((with_reducible refine gate_callee (f := 47) rfl ?_); refine goesL_ (some 58) rfl rfl Try.func47 (by kernel_rfl) rfl #[.string (⟨#[48, 48, 48, 48, 48, 48, 48, 49, 46, 56, 48, 48, 48, 48, 48, 48, 48]⟩ : ByteArray)] rfl (by (try simp only [List.map_toArray, List.map_cons, List.map_nil]); first | done | rfl | (simp only [List.length_drop, List.length_take]; rfl)) ?_; (with_reducible refine (stamp_Parse.calls kj2 (⟨#[48, 48, 48, 48, 48, 48, 48, 49, 46, 56, 48, 48, 48, 48, 48, 48, 48]⟩ : ByteArray) t173 t174 _ A18.out).mono ?_); rintro e w' ⟨rfl, ⟨nd, rfl⟩⟩; refine ⟨_, rfl, ?_⟩) | (go_at_call 41; (with_reducible refine (stamp_Nanos.calls kj2 1 t175 _ A21.out).mono ?_); rintro e w' ⟨rfl, ⟨nd, rfl⟩⟩) | (go_at_call 41; (with_reducible refine (stamp_Nanos.calls kj2 (-1) t176 _ A23.out).mono ?_); rintro e w' ⟨rfl, ⟨nd, rfl⟩⟩) | (go_at_call 45; (with_reducible refine (stamp_Long.calls 1 t177 _ A27.out).mono ?_); rintro e w' ⟨rfl, ⟨nd, rfl⟩⟩) | (go_at_call 31; (with_reducible refine (stamp_Diff.calls 1 2 t178 _ A29.out).mono ?_); rintro e w' ⟨rfl, ⟨nd, rfl⟩⟩) | (go_at_call 49; (with_reducible refine (stamp_Text.calls kj2 6442450944 t179 _ A31.out).mono ?_); rintro e w36 ⟨rfl, hb⟩; have n0_ := Aside0.mk (below_step (by repeat (first | (with_reducible first | exact HB.out | apply below_alloc | apply pw_below_drewN | apply below_drew1) | exact HB.out)) hb); clear HB; have HB := n0_; clear n0_; (try clear hb); (try clear hb2); (try clear hk); (try clear hi)))
                          go_ret
                          exact ⟨by first | rfl | (simp [errW_none, errW_some] <;> rfl) | (simp [*, errW_none, errW_some] <;> rfl), by repeat (first | (with_reducible first | exact HB.out | apply below_alloc | apply pw_below_drewN | apply below_drew1) | exact HB.out)⟩
                      · rw [if_neg c30] at H
                        have c30b0 : (t178 == (-1)) = false := beq_eq_false_iff_ne.mpr c30
                        have c30b1 : (t178 != (-1)) = true := bne_iff_ne.mpr c30
                        obtain rfl := Option.some.inj H
                        go_wp2_with (first | ((with_reducible refine gate_callee (f := 39) rfl ?_); refine goesL_ (some 50) rfl rfl Try.func39 (by kernel_rfl) rfl #[.int .i64 1500000000] rfl (by (try simp only [List.map_toArray, List.map_cons, List.map_nil]); first | done | rfl | (simp only [List.length_drop, List.length_take]; rfl)) ?_; (with_reducible refine (stamp_Units.calls kj2 1500000000 t169 true _ A16.out).mono ?_); rintro e w' ⟨rfl, ⟨nd, rfl⟩⟩; refine ⟨_, rfl, ?_⟩) | ((with_reducible refine gate_callee (f := 43) rfl ?_); refine goesL_ (some 54) rfl rfl Try.func43 (by kernel_rfl) rfl #[.int .i64 1000000000] rfl (by (try simp only [List.map_toArray, List.map_cons, List.map_nil]); first | done | rfl | (simp only [List.length_drop, List.length_take]; rfl)) ?_; (with_reducible refine (stamp_Short.calls kj2 1000000000 t171 t172 _ A17.out).mono ?_); rintro e w' ⟨rfl, ⟨nd, rfl⟩⟩; refine ⟨_, rfl, ?_⟩) | ((with_reducible refine gate_callee (f := 47) rfl ?_); refine goesL_ (some 58) rfl rfl Try.func47 (by kernel_rfl) rfl #[.string (⟨#[48, 48, 48, 48, 48, 48, 48, 49, 46, 56, 48, 48, 48, 48, 48, 48, 48]⟩ : ByteArray)] rfl (by (try simp only [List.map_toArray, List.map_cons, List.map_nil]); first | done | rfl | (simp only [List.length_drop, List.length_take]; rfl)) ?_; (with_reducible refine (stamp_Parse.calls kj2 (⟨#[48, 48, 48, 48, 48, 48, 48, 49, 46, 56, 48, 48, 48, 48, 48, 48, 48]⟩ : ByteArray) t173 t174 _ A18.out).mono ?_); rintro e w' ⟨rfl, ⟨nd, rfl⟩⟩; refine ⟨_, rfl, ?_⟩) | (go_at_call 41; (with_reducible refine (stamp_Nanos.calls kj2 1 t175 _ A21.out).mono ?_); rintro e w' ⟨rfl, ⟨nd, rfl⟩⟩) | (go_at_call 41; (with_reducible refine (stamp_Nanos.calls kj2 (-1) t176 _ A23.out).mono ?_); rintro e w' ⟨rfl, ⟨nd, rfl⟩⟩) | (go_at_call 45; (with_reducible refine (stamp_Long.calls 1 t177 _ A27.out).mono ?_); rintro e w' ⟨rfl, ⟨nd, rfl⟩⟩) | (go_at_call 31; (with_reducible refine (stamp_Diff.calls 1 2 t178 _ A29.out).mono ?_); rintro e w' ⟨rfl, ⟨nd, rfl⟩⟩))
                        go_ret
                        exact ⟨by first | rfl | (simp [errW_none, errW_some] <;> rfl) | (simp [*, errW_none, errW_some] <;> rfl), by repeat (first | (with_reducible first | exact HB.out | apply below_alloc | apply pw_below_drewN | apply below_drew1) | exact HB.out)⟩
                    · rw [if_neg c28] at H
                      have c28b0 : (t177 == 15259) = false := beq_eq_false_iff_ne.mpr c28
                      have c28b1 : (t177 != 15259) = true := bne_iff_ne.mpr c28
                      obtain rfl := Option.some.inj H
                      go_wp2_with (first | ((with_reducible refine gate_callee (f := 39) rfl ?_); refine goesL_ (some 50) rfl rfl Try.func39 (by kernel_rfl) rfl #[.int .i64 1500000000] rfl (by (try simp only [List.map_toArray, List.map_cons, List.map_nil]); first | done | rfl | (simp only [List.length_drop, List.length_take]; rfl)) ?_; (with_reducible refine (stamp_Units.calls kj2 1500000000 t169 true _ A16.out).mono ?_); rintro e w' ⟨rfl, ⟨nd, rfl⟩⟩; refine ⟨_, rfl, ?_⟩) | ((with_reducible refine gate_callee (f := 43) rfl ?_); refine goesL_ (some 54) rfl rfl Try.func43 (by kernel_rfl) rfl #[.int .i64 1000000000] rfl (by (try simp only [List.map_toArray, List.map_cons, List.map_nil]); first | done | rfl | (simp only [List.length_drop, List.length_take]; rfl)) ?_; (with_reducible refine (stamp_Short.calls kj2 1000000000 t171 t172 _ A17.out).mono ?_); rintro e w' ⟨rfl, ⟨nd, rfl⟩⟩; refine ⟨_, rfl, ?_⟩) | ((with_reducible refine gate_callee (f := 47) rfl ?_); refine goesL_ (some 58) rfl rfl Try.func47 (by kernel_rfl) rfl #[.string (⟨#[48, 48, 48, 48, 48, 48, 48, 49, 46, 56, 48, 48, 48, 48, 48, 48, 48]⟩ : ByteArray)] rfl (by (try simp only [List.map_toArray, List.map_cons, List.map_nil]); first | done | rfl | (simp only [List.length_drop, List.length_take]; rfl)) ?_; (with_reducible refine (stamp_Parse.calls kj2 (⟨#[48, 48, 48, 48, 48, 48, 48, 49, 46, 56, 48, 48, 48, 48, 48, 48, 48]⟩ : ByteArray) t173 t174 _ A18.out).mono ?_); rintro e w' ⟨rfl, ⟨nd, rfl⟩⟩; refine ⟨_, rfl, ?_⟩) | (go_at_call 41; (with_reducible refine (stamp_Nanos.calls kj2 1 t175 _ A21.out).mono ?_); rintro e w' ⟨rfl, ⟨nd, rfl⟩⟩) | (go_at_call 41; (with_reducible refine (stamp_Nanos.calls kj2 (-1) t176 _ A23.out).mono ?_); rintro e w' ⟨rfl, ⟨nd, rfl⟩⟩) | (go_at_call 45; (with_reducible refine (stamp_Long.calls 1 t177 _ A27.out).mono ?_); rintro e w' ⟨rfl, ⟨nd, rfl⟩⟩))
                      go_ret
                      exact ⟨by first | rfl | (simp [errW_none, errW_some] <;> rfl) | (simp [*, errW_none, errW_some] <;> rfl), by repeat (first | (with_reducible first | exact HB.out | apply below_alloc | apply pw_below_drewN | apply below_drew1) | exact HB.out)⟩
                  · rw [if_neg c26] at H
                    have c26b0 : (t172 == 0) = false := beq_eq_false_iff_ne.mpr c26
                    have c26b1 : (t172 != 0) = true := bne_iff_ne.mpr c26
                    obtain rfl := Option.some.inj H
                    go_wp2_with (first | ((with_reducible refine gate_callee (f := 39) rfl ?_); refine goesL_ (some 50) rfl rfl Try.func39 (by kernel_rfl) rfl #[.int .i64 1500000000] rfl (by (try simp only [List.map_toArray, List.map_cons, List.map_nil]); first | done | rfl | (simp only [List.length_drop, List.length_take]; rfl)) ?_; (with_reducible refine (stamp_Units.calls kj2 1500000000 t169 true _ A16.out).mono ?_); rintro e w' ⟨rfl, ⟨nd, rfl⟩⟩; refine ⟨_, rfl, ?_⟩) | ((with_reducible refine gate_callee (f := 43) rfl ?_); refine goesL_ (some 54) rfl rfl Try.func43 (by kernel_rfl) rfl #[.int .i64 1000000000] rfl (by (try simp only [List.map_toArray, List.map_cons, List.map_nil]); first | done | rfl | (simp only [List.length_drop, List.length_take]; rfl)) ?_; (with_reducible refine (stamp_Short.calls kj2 1000000000 t171 t172 _ A17.out).mono ?_); rintro e w' ⟨rfl, ⟨nd, rfl⟩⟩; refine ⟨_, rfl, ?_⟩) | ((with_reducible refine gate_callee (f := 47) rfl ?_); refine goesL_ (some 58) rfl rfl Try.func47 (by kernel_rfl) rfl #[.string (⟨#[48, 48, 48, 48, 48, 48, 48, 49, 46, 56, 48, 48, 48, 48, 48, 48, 48]⟩ : ByteArray)] rfl (by (try simp only [List.map_toArray, List.map_cons, List.map_nil]); first | done | rfl | (simp only [List.length_drop, List.length_take]; rfl)) ?_; (with_reducible refine (stamp_Parse.calls kj2 (⟨#[48, 48, 48, 48, 48, 48, 48, 49, 46, 56, 48, 48, 48, 48, 48, 48, 48]⟩ : ByteArray) t173 t174 _ A18.out).mono ?_); rintro e w' ⟨rfl, ⟨nd, rfl⟩⟩; refine ⟨_, rfl, ?_⟩) | (go_at_call 41; (with_reducible refine (stamp_Nanos.calls kj2 1 t175 _ A21.out).mono ?_); rintro e w' ⟨rfl, ⟨nd, rfl⟩⟩) | (go_at_call 41; (with_reducible refine (stamp_Nanos.calls kj2 (-1) t176 _ A23.out).mono ?_); rintro e w' ⟨rfl, ⟨nd, rfl⟩⟩))
                    go_ret
                    exact ⟨by first | rfl | (simp [errW_none, errW_some] <;> rfl) | (simp [*, errW_none, errW_some] <;> rfl), by repeat (first | (with_reducible first | exact HB.out | apply below_alloc | apply pw_below_drewN | apply below_drew1) | exact HB.out)⟩
                · rw [if_neg c25] at H
                  have c25b0 : (t171 == 65536) = false := beq_eq_false_iff_ne.mpr c25
                  have c25b1 : (t171 != 65536) = true := bne_iff_ne.mpr c25
                  obtain rfl := Option.some.inj H
                  go_wp2_with (first | ((with_reducible refine gate_callee (f := 39) rfl ?_); refine goesL_ (some 50) rfl rfl Try.func39 (by kernel_rfl) rfl #[.int .i64 1500000000] rfl (by (try simp only [List.map_toArray, List.map_cons, List.map_nil]); first | done | rfl | (simp only [List.length_drop, List.length_take]; rfl)) ?_; (with_reducible refine (stamp_Units.calls kj2 1500000000 t169 true _ A16.out).mono ?_); rintro e w' ⟨rfl, ⟨nd, rfl⟩⟩; refine ⟨_, rfl, ?_⟩) | ((with_reducible refine gate_callee (f := 43) rfl ?_); refine goesL_ (some 54) rfl rfl Try.func43 (by kernel_rfl) rfl #[.int .i64 1000000000] rfl (by (try simp only [List.map_toArray, List.map_cons, List.map_nil]); first | done | rfl | (simp only [List.length_drop, List.length_take]; rfl)) ?_; (with_reducible refine (stamp_Short.calls kj2 1000000000 t171 t172 _ A17.out).mono ?_); rintro e w' ⟨rfl, ⟨nd, rfl⟩⟩; refine ⟨_, rfl, ?_⟩) | ((with_reducible refine gate_callee (f := 47) rfl ?_); refine goesL_ (some 58) rfl rfl Try.func47 (by kernel_rfl) rfl #[.string (⟨#[48, 48, 48, 48, 48, 48, 48, 49, 46, 56, 48, 48, 48, 48, 48, 48, 48]⟩ : ByteArray)] rfl (by (try simp only [List.map_toArray, List.map_cons, List.map_nil]); first | done | rfl | (simp only [List.length_drop, List.length_take]; rfl)) ?_; (with_reducible refine (stamp_Parse.calls kj2 (⟨#[48, 48, 48, 48, 48, 48, 48, 49, 46, 56, 48, 48, 48, 48, 48, 48, 48]⟩ : ByteArray) t173 t174 _ A18.out).mono ?_); rintro e w' ⟨rfl, ⟨nd, rfl⟩⟩; refine ⟨_, rfl, ?_⟩) | (go_at_call 41; (with_reducible refine (stamp_Nanos.calls kj2 1 t175 _ A21.out).mono ?_); rintro e w' ⟨rfl, ⟨nd, rfl⟩⟩) | (go_at_call 41; (with_reducible refine (stamp_Nanos.calls kj2 (-1) t176 _ A23.out).mono ?_); rintro e w' ⟨rfl, ⟨nd, rfl⟩⟩))
                  go_ret
                  exact ⟨by first | rfl | (simp [errW_none, errW_some] <;> rfl) | (simp [*, errW_none, errW_some] <;> rfl), by repeat (first | (with_reducible first | exact HB.out | apply below_alloc | apply pw_below_drewN | apply below_drew1) | exact HB.out)⟩
              · rw [if_neg c24] at H
                have c24b0 : (t176 == 0) = false := beq_eq_false_iff_ne.mpr c24
                have c24b1 : (t176 != 0) = true := bne_iff_ne.mpr c24
                obtain rfl := Option.some.inj H
                go_wp2_with (first | ((with_reducible refine gate_callee (f := 39) rfl ?_); refine goesL_ (some 50) rfl rfl Try.func39 (by kernel_rfl) rfl #[.int .i64 1500000000] rfl (by (try simp only [List.map_toArray, List.map_cons, List.map_nil]); first | done | rfl | (simp only [List.length_drop, List.length_take]; rfl)) ?_; (with_reducible refine (stamp_Units.calls kj2 1500000000 t169 true _ A16.out).mono ?_); rintro e w' ⟨rfl, ⟨nd, rfl⟩⟩; refine ⟨_, rfl, ?_⟩) | ((with_reducible refine gate_callee (f := 43) rfl ?_); refine goesL_ (some 54) rfl rfl Try.func43 (by kernel_rfl) rfl #[.int .i64 1000000000] rfl (by (try simp only [List.map_toArray, List.map_cons, List.map_nil]); first | done | rfl | (simp only [List.length_drop, List.length_take]; rfl)) ?_; (with_reducible refine (stamp_Short.calls kj2 1000000000 t171 t172 _ A17.out).mono ?_); rintro e w' ⟨rfl, ⟨nd, rfl⟩⟩; refine ⟨_, rfl, ?_⟩) | ((with_reducible refine gate_callee (f := 47) rfl ?_); refine goesL_ (some 58) rfl rfl Try.func47 (by kernel_rfl) rfl #[.string (⟨#[48, 48, 48, 48, 48, 48, 48, 49, 46, 56, 48, 48, 48, 48, 48, 48, 48]⟩ : ByteArray)] rfl (by (try simp only [List.map_toArray, List.map_cons, List.map_nil]); first | done | rfl | (simp only [List.length_drop, List.length_take]; rfl)) ?_; (with_reducible refine (stamp_Parse.calls kj2 (⟨#[48, 48, 48, 48, 48, 48, 48, 49, 46, 56, 48, 48, 48, 48, 48, 48, 48]⟩ : ByteArray) t173 t174 _ A18.out).mono ?_); rintro e w' ⟨rfl, ⟨nd, rfl⟩⟩; refine ⟨_, rfl, ?_⟩) | (go_at_call 41; (with_reducible refine (stamp_Nanos.calls kj2 1 t175 _ A21.out).mono ?_); rintro e w' ⟨rfl, ⟨nd, rfl⟩⟩) | (go_at_call 41; (with_reducible refine (stamp_Nanos.calls kj2 (-1) t176 _ A23.out).mono ?_); rintro e w' ⟨rfl, ⟨nd, rfl⟩⟩))
                go_ret
                exact ⟨by first | rfl | (simp [errW_none, errW_some] <;> rfl) | (simp [*, errW_none, errW_some] <;> rfl), by repeat (first | (with_reducible first | exact HB.out | apply below_alloc | apply pw_below_drewN | apply below_drew1) | exact HB.out)⟩
            · rw [if_neg c22] at H
              have c22b0 : (t175 == 1) = false := beq_eq_false_iff_ne.mpr c22
              have c22b1 : (t175 != 1) = true := bne_iff_ne.mpr c22
              obtain rfl := Option.some.inj H
              go_wp2_with (first | ((with_reducible refine gate_callee (f := 39) rfl ?_); refine goesL_ (some 50) rfl rfl Try.func39 (by kernel_rfl) rfl #[.int .i64 1500000000] rfl (by (try simp only [List.map_toArray, List.map_cons, List.map_nil]); first | done | rfl | (simp only [List.length_drop, List.length_take]; rfl)) ?_; (with_reducible refine (stamp_Units.calls kj2 1500000000 t169 true _ A16.out).mono ?_); rintro e w' ⟨rfl, ⟨nd, rfl⟩⟩; refine ⟨_, rfl, ?_⟩) | ((with_reducible refine gate_callee (f := 43) rfl ?_); refine goesL_ (some 54) rfl rfl Try.func43 (by kernel_rfl) rfl #[.int .i64 1000000000] rfl (by (try simp only [List.map_toArray, List.map_cons, List.map_nil]); first | done | rfl | (simp only [List.length_drop, List.length_take]; rfl)) ?_; (with_reducible refine (stamp_Short.calls kj2 1000000000 t171 t172 _ A17.out).mono ?_); rintro e w' ⟨rfl, ⟨nd, rfl⟩⟩; refine ⟨_, rfl, ?_⟩) | ((with_reducible refine gate_callee (f := 47) rfl ?_); refine goesL_ (some 58) rfl rfl Try.func47 (by kernel_rfl) rfl #[.string (⟨#[48, 48, 48, 48, 48, 48, 48, 49, 46, 56, 48, 48, 48, 48, 48, 48, 48]⟩ : ByteArray)] rfl (by (try simp only [List.map_toArray, List.map_cons, List.map_nil]); first | done | rfl | (simp only [List.length_drop, List.length_take]; rfl)) ?_; (with_reducible refine (stamp_Parse.calls kj2 (⟨#[48, 48, 48, 48, 48, 48, 48, 49, 46, 56, 48, 48, 48, 48, 48, 48, 48]⟩ : ByteArray) t173 t174 _ A18.out).mono ?_); rintro e w' ⟨rfl, ⟨nd, rfl⟩⟩; refine ⟨_, rfl, ?_⟩) | (go_at_call 41; (with_reducible refine (stamp_Nanos.calls kj2 1 t175 _ A21.out).mono ?_); rintro e w' ⟨rfl, ⟨nd, rfl⟩⟩))
              go_ret
              exact ⟨by first | rfl | (simp [errW_none, errW_some] <;> rfl) | (simp [*, errW_none, errW_some] <;> rfl), by repeat (first | (with_reducible first | exact HB.out | apply below_alloc | apply pw_below_drewN | apply below_drew1) | exact HB.out)⟩
          · replace c20 := Bool.eq_false_iff.mpr c20
            subst c20
            have H1 : (some false) = some r := by rw [if_neg (show ¬ (false = true) by decide)] at H; exact H
            clear H
            have H := H1
            clear H1
            obtain rfl := Option.some.inj H
            go_wp2_with (first | ((with_reducible refine gate_callee (f := 39) rfl ?_); refine goesL_ (some 50) rfl rfl Try.func39 (by kernel_rfl) rfl #[.int .i64 1500000000] rfl (by (try simp only [List.map_toArray, List.map_cons, List.map_nil]); first | done | rfl | (simp only [List.length_drop, List.length_take]; rfl)) ?_; (with_reducible refine (stamp_Units.calls kj2 1500000000 t169 false _ A16.out).mono ?_); rintro e w' ⟨rfl, ⟨nd, rfl⟩⟩; refine ⟨_, rfl, ?_⟩) | ((with_reducible refine gate_callee (f := 43) rfl ?_); refine goesL_ (some 54) rfl rfl Try.func43 (by kernel_rfl) rfl #[.int .i64 1000000000] rfl (by (try simp only [List.map_toArray, List.map_cons, List.map_nil]); first | done | rfl | (simp only [List.length_drop, List.length_take]; rfl)) ?_; (with_reducible refine (stamp_Short.calls kj2 1000000000 t171 t172 _ A17.out).mono ?_); rintro e w' ⟨rfl, ⟨nd, rfl⟩⟩; refine ⟨_, rfl, ?_⟩) | ((with_reducible refine gate_callee (f := 47) rfl ?_); refine goesL_ (some 58) rfl rfl Try.func47 (by kernel_rfl) rfl #[.string (⟨#[48, 48, 48, 48, 48, 48, 48, 49, 46, 56, 48, 48, 48, 48, 48, 48, 48]⟩ : ByteArray)] rfl (by (try simp only [List.map_toArray, List.map_cons, List.map_nil]); first | done | rfl | (simp only [List.length_drop, List.length_take]; rfl)) ?_; (with_reducible refine (stamp_Parse.calls kj2 (⟨#[48, 48, 48, 48, 48, 48, 48, 49, 46, 56, 48, 48, 48, 48, 48, 48, 48]⟩ : ByteArray) t173 t174 _ A18.out).mono ?_); rintro e w' ⟨rfl, ⟨nd, rfl⟩⟩; refine ⟨_, rfl, ?_⟩))
            go_ret
            exact ⟨by first | rfl | (simp [errW_none, errW_some] <;> rfl) | (simp [*, errW_none, errW_some] <;> rfl), by repeat (first | (with_reducible first | exact HB.out | apply below_alloc | apply pw_below_drewN | apply below_drew1) | exact HB.out)⟩
        · rw [if_neg c19] at H
          have c19b0 : (t169 == 6442450944) = false := beq_eq_false_iff_ne.mpr c19
          have c19b1 : (t169 != 6442450944) = true := bne_iff_ne.mpr c19
          obtain rfl := Option.some.inj H
          go_wp2_with (first | ((with_reducible refine gate_callee (f := 39) rfl ?_); refine goesL_ (some 50) rfl rfl Try.func39 (by kernel_rfl) rfl #[.int .i64 1500000000] rfl (by (try simp only [List.map_toArray, List.map_cons, List.map_nil]); first | done | rfl | (simp only [List.length_drop, List.length_take]; rfl)) ?_; (with_reducible refine (stamp_Units.calls kj2 1500000000 t169 t170 _ A16.out).mono ?_); rintro e w' ⟨rfl, ⟨nd, rfl⟩⟩; refine ⟨_, rfl, ?_⟩) | ((with_reducible refine gate_callee (f := 43) rfl ?_); refine goesL_ (some 54) rfl rfl Try.func43 (by kernel_rfl) rfl #[.int .i64 1000000000] rfl (by (try simp only [List.map_toArray, List.map_cons, List.map_nil]); first | done | rfl | (simp only [List.length_drop, List.length_take]; rfl)) ?_; (with_reducible refine (stamp_Short.calls kj2 1000000000 t171 t172 _ A17.out).mono ?_); rintro e w' ⟨rfl, ⟨nd, rfl⟩⟩; refine ⟨_, rfl, ?_⟩) | ((with_reducible refine gate_callee (f := 47) rfl ?_); refine goesL_ (some 58) rfl rfl Try.func47 (by kernel_rfl) rfl #[.string (⟨#[48, 48, 48, 48, 48, 48, 48, 49, 46, 56, 48, 48, 48, 48, 48, 48, 48]⟩ : ByteArray)] rfl (by (try simp only [List.map_toArray, List.map_cons, List.map_nil]); first | done | rfl | (simp only [List.length_drop, List.length_take]; rfl)) ?_; (with_reducible refine (stamp_Parse.calls kj2 (⟨#[48, 48, 48, 48, 48, 48, 48, 49, 46, 56, 48, 48, 48, 48, 48, 48, 48]⟩ : ByteArray) t173 t174 _ A18.out).mono ?_); rintro e w' ⟨rfl, ⟨nd, rfl⟩⟩; refine ⟨_, rfl, ?_⟩))
          go_ret
          exact ⟨by first | rfl | (simp [errW_none, errW_some] <;> rfl) | (simp [*, errW_none, errW_some] <;> rfl), by repeat (first | (with_reducible first | exact HB.out | apply below_alloc | apply pw_below_drewN | apply below_drew1) | exact HB.out)⟩

/-! ### timesynclaw03_StampOf: function 3 -/
def timesynclaw03_StampOf.f (k : Nat) (a0 : Int) : Option (Bool) := (stamp_Of.f k a0).bind fun t180 => ((timesyncref03_Of.f a0).bind fun t181 => (if t180 = t181 then ((stamp_Era.f a0).bind fun t182 => ((timesyncref03_Era.f a0).bind fun t183 => (if t182 = t183 then ((timesynclaw03_awake.f k).bind fun t184 => (some t184)) else (some false)))) else (some false)))
theorem timesynclaw03_StampOf.mono : ∀ a0 k, LeO (timesynclaw03_StampOf.f k a0) (timesynclaw03_StampOf.f (k + 1) a0) := by
  intro a0 k
  unfold timesynclaw03_StampOf.f
  repeat' first
      | (with_reducible exact stamp_Of.mono _ _)
      | (with_reducible exact timesynclaw03_awake.mono _)
      | (with_reducible exact LeO.refl _)
      | (with_reducible exact LeO.none _)
      | (with_reducible refine LeO.ite ?_ ?_)
      | (with_reducible refine LeO.bind ?_ (fun _ => ?_))
      | exact stamp_Of.mono _ _
      | exact timesynclaw03_awake.mono _
      | exact LeO.none _
      | refine LeO.ite ?_ ?_
      | refine LeO.bind ?_ (fun _ => ?_)
set_option maxHeartbeats 8000000 in
set_option maxRecDepth 100000 in
theorem timesynclaw03_StampOf.calls (k : Nat) (a0 : Int) (r : Bool) (w : World) (h : timesynclaw03_StampOf.f k a0 = some r) :
    Calls Try.prog 3 #[.int .i64 a0] w fun e w' => e = .returned (.bool r) ∧ Below w.heap.size w w' := by
  have HB := Aside0.mk (Below.refl w.heap.size w)
  have H : ((stamp_Of.f k a0).bind fun t180 => ((timesyncref03_Of.f a0).bind fun t181 => (if t180 = t181 then ((stamp_Era.f a0).bind fun t182 => ((timesyncref03_Era.f a0).bind fun t183 => (if t182 = t183 then ((timesynclaw03_awake.f k).bind fun t184 => (some t184)) else (some false)))) else (some false)))) = some r := h
  clear h
  replace H := Option.bind_eq_some_iff.mp H
  obtain ⟨t180, A20, H⟩ := H
  replace H : ((timesyncref03_Of.f a0).bind fun t181 => (if t180 = t181 then ((stamp_Era.f a0).bind fun t182 => ((timesyncref03_Era.f a0).bind fun t183 => (if t182 = t183 then ((timesynclaw03_awake.f k).bind fun t184 => (some t184)) else (some false)))) else (some false))) = some r := H
  have A2 := Aside0.mk A20
  clear A20
  replace H := Option.bind_eq_some_iff.mp H
  obtain ⟨t181, A30, H⟩ := H
  replace H : (if t180 = t181 then ((stamp_Era.f a0).bind fun t182 => ((timesyncref03_Era.f a0).bind fun t183 => (if t182 = t183 then ((timesynclaw03_awake.f k).bind fun t184 => (some t184)) else (some false)))) else (some false)) = some r := H
  have A3 := Aside0.mk A30
  clear A30
  by_cases c4 : t180 = t181
  · rw [if_pos c4] at H
    have c4b0 : (t180 == t181) = true := beq_iff_eq.mpr c4
    have c4b1 : (t180 != t181) = false := bne_eq_false_iff_eq.mpr c4
    clear c4
    replace H := Option.bind_eq_some_iff.mp H
    obtain ⟨t182, A50, H⟩ := H
    replace H : ((timesyncref03_Era.f a0).bind fun t183 => (if t182 = t183 then ((timesynclaw03_awake.f k).bind fun t184 => (some t184)) else (some false))) = some r := H
    have A5 := Aside0.mk A50
    clear A50
    replace H := Option.bind_eq_some_iff.mp H
    obtain ⟨t183, A60, H⟩ := H
    replace H : (if t182 = t183 then ((timesynclaw03_awake.f k).bind fun t184 => (some t184)) else (some false)) = some r := H
    have A6 := Aside0.mk A60
    clear A60
    by_cases c7 : t182 = t183
    · rw [if_pos c7] at H
      have c7b0 : (t182 == t183) = true := beq_iff_eq.mpr c7
      have c7b1 : (t182 != t183) = false := bne_eq_false_iff_eq.mpr c7
      clear c7
      replace H := Option.bind_eq_some_iff.mp H
      obtain ⟨t184, A80, H⟩ := H
      replace H : (some t184) = some r := H
      have A8 := Aside0.mk A80
      clear A80
      obtain rfl := Option.some.inj H
      go_enter Try.func3, Try.ntmps3
      go_wp2_with (first | ((with_reducible refine gate_callee (f := 14) rfl ?_); refine goesL_ (some 4) rfl rfl Try.func14 (by kernel_rfl) rfl #[.int .i64 a0] rfl (by (try simp only [List.map_toArray, List.map_cons, List.map_nil]); first | done | rfl | (simp only [List.length_drop, List.length_take]; rfl)) ?_; (with_reducible refine (stamp_Of.calls k a0 t180 _ A2.out).mono ?_); rintro e w' ⟨rfl, ⟨nd, rfl⟩⟩; refine ⟨_, rfl, ?_⟩) | ((with_reducible refine gate_callee (f := 15) rfl ?_); refine goesL_ (some 6) rfl rfl Try.func15 (by kernel_rfl) rfl #[.int .i64 a0] rfl (by (try simp only [List.map_toArray, List.map_cons, List.map_nil]); first | done | rfl | (simp only [List.length_drop, List.length_take]; rfl)) ?_; (with_reducible refine (timesyncref03_Of.calls a0 t181 _ A3.out).mono ?_); rintro e w' ⟨rfl, ⟨nd, rfl⟩⟩; refine ⟨_, rfl, ?_⟩) | (go_at_call 16; (with_reducible refine (stamp_Era.calls a0 t182 _ A5.out).mono ?_); rintro e w' ⟨rfl, ⟨nd, rfl⟩⟩) | (go_at_call 17; (with_reducible refine (timesyncref03_Era.calls a0 t183 _ A6.out).mono ?_); rintro e w' ⟨rfl, ⟨nd, rfl⟩⟩) | (go_at_call 18; (with_reducible refine (timesynclaw03_awake.calls k  t184 _ A8.out).mono ?_); rintro e w9 ⟨rfl, hb⟩; have n0_ := Aside0.mk (below_step (by repeat (first | (with_reducible first | exact HB.out | apply below_alloc | apply pw_below_drewN | apply below_drew1) | exact HB.out)) hb); clear HB; have HB := n0_; clear n0_; (try clear hb); (try clear hb2); (try clear hk); (try clear hi)))
      go_ret
      exact ⟨by first | rfl | (simp [errW_none, errW_some] <;> rfl) | (simp [*, errW_none, errW_some] <;> rfl), by repeat (first | (with_reducible first | exact HB.out | apply below_alloc | apply pw_below_drewN | apply below_drew1) | exact HB.out)⟩
    · rw [if_neg c7] at H
      have c7b0 : (t182 == t183) = false := beq_eq_false_iff_ne.mpr c7
      have c7b1 : (t182 != t183) = true := bne_iff_ne.mpr c7
      obtain rfl := Option.some.inj H
      go_enter Try.func3, Try.ntmps3
      go_wp2_with (first | ((with_reducible refine gate_callee (f := 14) rfl ?_); refine goesL_ (some 4) rfl rfl Try.func14 (by kernel_rfl) rfl #[.int .i64 a0] rfl (by (try simp only [List.map_toArray, List.map_cons, List.map_nil]); first | done | rfl | (simp only [List.length_drop, List.length_take]; rfl)) ?_; (with_reducible refine (stamp_Of.calls k a0 t180 _ A2.out).mono ?_); rintro e w' ⟨rfl, ⟨nd, rfl⟩⟩; refine ⟨_, rfl, ?_⟩) | ((with_reducible refine gate_callee (f := 15) rfl ?_); refine goesL_ (some 6) rfl rfl Try.func15 (by kernel_rfl) rfl #[.int .i64 a0] rfl (by (try simp only [List.map_toArray, List.map_cons, List.map_nil]); first | done | rfl | (simp only [List.length_drop, List.length_take]; rfl)) ?_; (with_reducible refine (timesyncref03_Of.calls a0 t181 _ A3.out).mono ?_); rintro e w' ⟨rfl, ⟨nd, rfl⟩⟩; refine ⟨_, rfl, ?_⟩) | (go_at_call 16; (with_reducible refine (stamp_Era.calls a0 t182 _ A5.out).mono ?_); rintro e w' ⟨rfl, ⟨nd, rfl⟩⟩) | (go_at_call 17; (with_reducible refine (timesyncref03_Era.calls a0 t183 _ A6.out).mono ?_); rintro e w' ⟨rfl, ⟨nd, rfl⟩⟩))
      go_ret
      exact ⟨by first | rfl | (simp [errW_none, errW_some] <;> rfl) | (simp [*, errW_none, errW_some] <;> rfl), by repeat (first | (with_reducible first | exact HB.out | apply below_alloc | apply pw_below_drewN | apply below_drew1) | exact HB.out)⟩
  · rw [if_neg c4] at H
    have c4b0 : (t180 == t181) = false := beq_eq_false_iff_ne.mpr c4
    have c4b1 : (t180 != t181) = true := bne_iff_ne.mpr c4
    obtain rfl := Option.some.inj H
    go_enter Try.func3, Try.ntmps3
    go_wp2_with (first | ((with_reducible refine gate_callee (f := 14) rfl ?_); refine goesL_ (some 4) rfl rfl Try.func14 (by kernel_rfl) rfl #[.int .i64 a0] rfl (by (try simp only [List.map_toArray, List.map_cons, List.map_nil]); first | done | rfl | (simp only [List.length_drop, List.length_take]; rfl)) ?_; (with_reducible refine (stamp_Of.calls k a0 t180 _ A2.out).mono ?_); rintro e w' ⟨rfl, ⟨nd, rfl⟩⟩; refine ⟨_, rfl, ?_⟩) | ((with_reducible refine gate_callee (f := 15) rfl ?_); refine goesL_ (some 6) rfl rfl Try.func15 (by kernel_rfl) rfl #[.int .i64 a0] rfl (by (try simp only [List.map_toArray, List.map_cons, List.map_nil]); first | done | rfl | (simp only [List.length_drop, List.length_take]; rfl)) ?_; (with_reducible refine (timesyncref03_Of.calls a0 t181 _ A3.out).mono ?_); rintro e w' ⟨rfl, ⟨nd, rfl⟩⟩; refine ⟨_, rfl, ?_⟩))
    go_ret
    exact ⟨by first | rfl | (simp [errW_none, errW_some] <;> rfl) | (simp [*, errW_none, errW_some] <;> rfl), by repeat (first | (with_reducible first | exact HB.out | apply below_alloc | apply pw_below_drewN | apply below_drew1) | exact HB.out)⟩

/-- THE ONE PURE STATEMENT of timesynclaw03_StampOf: yours. -/
def timesynclaw03_StampOf.Pure : Prop := ∀ (a0 : Int), (Lit.int .i64 a0).wf = true → ∃ k, timesynclaw03_StampOf.f k a0 = some true
theorem timesynclaw03_StampOf.walk (P : timesynclaw03_StampOf.Pure) (a0 : Int) (w : World) (w0 : (Lit.int .i64 a0).wf = true) :
    Calls Try.prog 3 #[.int .i64 a0] w fun e w' => e = .returned (.bool true) ∧ Below w.heap.size w w' := by
  obtain ⟨k, h⟩ := P a0 w0
  refine (timesynclaw03_StampOf.calls k a0 true w h).mono ?_
  rintro e w' ⟨rfl, hd⟩
  exact ⟨rfl, hd⟩

/-! ### timesyncref03_Diff: function 38 -/
def timesyncref03_Diff.f (a0 : Int) (a1 : Int) : Option (Int) := some (wrap64 (IntKind.u64.wrap (a0 - a1)))
set_option maxHeartbeats 8000000 in
set_option maxRecDepth 100000 in
theorem timesyncref03_Diff.calls (a0 : Int) (a1 : Int) (r : Int) (w : World) (h : timesyncref03_Diff.f a0 a1 = some r) :
    Calls Try.prog 38 #[.int .u64 a0, .int .u64 a1] w fun e w' => e = .returned (.int .i64 r) ∧ Drawn0 w w' := by
  have H : (some (wrap64 (IntKind.u64.wrap (a0 - a1)))) = some r := h
  clear h
  obtain rfl := Option.some.inj H
  go_enter Try.func38, Try.ntmps38
  go_wp2
  go_ret
  exact ⟨by first | rfl | (simp; done) | (simp [*]; done), by repeat (first | exact Drawn0.refl _ | apply Drawn0.step)⟩

/-! ### timesyncref03_above: function 63 -/
def timesyncref03_above.f (a0 : Int) : Option (Int) := some (wrap64 (Int.tdiv (wrap64 ((wrap64 (a0 * 1000000000)) + 4294967295)) 4294967296))
set_option maxHeartbeats 8000000 in
set_option maxRecDepth 100000 in
theorem timesyncref03_above.calls (a0 : Int) (r : Int) (w : World) (h : timesyncref03_above.f a0 = some r) :
    Calls Try.prog 63 #[.int .i64 a0] w fun e w' => e = .returned (.int .i64 r) ∧ Drawn0 w w' := by
  have H : (some (wrap64 (Int.tdiv (wrap64 ((wrap64 (a0 * 1000000000)) + 4294967295)) 4294967296))) = some r := h
  clear h
  obtain rfl := Option.some.inj H
  go_enter Try.func63, Try.ntmps63
  go_wp2
  go_ret
  exact ⟨by first | rfl | (simp; done) | (simp [*]; done), by repeat (first | exact Drawn0.refl _ | apply Drawn0.step)⟩

/-! ### timesyncref03_Time: function 28 -/
mutual
def timesyncref03_Time.j0 : Nat → Int → Int → Bool → Option (Int × Int)
  | 0, _, _, _ => none
  | k + 1, x0, x1, x19 => if x19 = true then (some (0, 2)) else ((timesyncref03_split.f x1).bind fun bt185 => ((timesyncref03_Of.f x1).bind fun t187 => ((timesyncref03_Diff.f x0 t187).bind fun t188 => (if (wrap64 ((wrap64 (bt185.1 + (t188 / 4294967296))) + ((wrap64 ((wrap64 (Int.tdiv (wrap64 (bt185.2 * 4294967296)) 1000000000)) + (Go.bits .and .i64 t188 4294967295))) / 4294967296))) > 8000000000 then (timesyncref03_Time.j1 k (Go.bits .and .i64 (wrap64 ((wrap64 (Int.tdiv (wrap64 (bt185.2 * 4294967296)) 1000000000)) + (Go.bits .and .i64 t188 4294967295))) 4294967295) (wrap64 ((wrap64 (bt185.1 + (t188 / 4294967296))) + ((wrap64 ((wrap64 (Int.tdiv (wrap64 (bt185.2 * 4294967296)) 1000000000)) + (Go.bits .and .i64 t188 4294967295))) / 4294967296))) true) else (timesyncref03_Time.j1 k (Go.bits .and .i64 (wrap64 ((wrap64 (Int.tdiv (wrap64 (bt185.2 * 4294967296)) 1000000000)) + (Go.bits .and .i64 t188 4294967295))) 4294967295) (wrap64 ((wrap64 (bt185.1 + (t188 / 4294967296))) + ((wrap64 ((wrap64 (Int.tdiv (wrap64 (bt185.2 * 4294967296)) 1000000000)) + (Go.bits .and .i64 t188 4294967295))) / 4294967296))) (decide ((wrap64 ((wrap64 (bt185.1 + (t188 / 4294967296))) + ((wrap64 ((wrap64 (Int.tdiv (wrap64 (bt185.2 * 4294967296)) 1000000000)) + (Go.bits .and .i64 t188 4294967295))) / 4294967296))) < ((-8000000000) - 1))))))))
def timesyncref03_Time.j1 : Nat → Int → Int → Bool → Option (Int × Int)
  | 0, _, _, _ => none
  | k + 1, x10, x11, x54 => if x54 = true then (some (0, 3)) else ((timesyncref03_above.f x10).bind fun t189 => (if (wrap64 ((wrap64 (x11 * 1000000000)) + t189)) < (-8000000000000000000) then (some (0, 3)) else (if (wrap64 ((wrap64 (x11 * 1000000000)) + t189)) > 8000000000000000000 then (some (0, 3)) else (some (wrap64 ((wrap64 (x11 * 1000000000)) + t189), 0)))))
end
def timesyncref03_Time.f (k : Nat) (a0 : Int) (a1 : Int) : Option (Int × Int) := if a1 < (-8000000000000000000) then (timesyncref03_Time.j0 k a0 a1 true) else (timesyncref03_Time.j0 k a0 a1 (decide (a1 > 8000000000000000000)))
theorem timesyncref03_Time.mono_l : ∀ k, (∀ y0 y1 y2, LeO (timesyncref03_Time.j0 k y0 y1 y2) (timesyncref03_Time.j0 (k + 1) y0 y1 y2)) ∧ (∀ y0 y1 y2, LeO (timesyncref03_Time.j1 k y0 y1 y2) (timesyncref03_Time.j1 (k + 1) y0 y1 y2))
  | 0 => ⟨fun _ _ _ r h => by simp [timesyncref03_Time.j0] at h, fun _ _ _ r h => by simp [timesyncref03_Time.j1] at h⟩
  | k + 1 => by
    obtain ⟨ih0, ih1⟩ := timesyncref03_Time.mono_l k
    refine ⟨?_, ?_⟩
    · intro y0 y1 y2
      unfold timesyncref03_Time.j0
      repeat' first
      | (with_reducible exact ih0 _ _ _)
      | (with_reducible exact ih1 _ _ _)
      | (with_reducible exact LeO.refl _)
      | (with_reducible exact LeO.none _)
      | (with_reducible refine LeO.ite ?_ ?_)
      | (with_reducible refine LeO.bind ?_ (fun _ => ?_))
      | exact ih0 _ _ _
      | exact ih1 _ _ _
      | exact LeO.none _
      | refine LeO.ite ?_ ?_
      | refine LeO.bind ?_ (fun _ => ?_)
    · intro y0 y1 y2
      unfold timesyncref03_Time.j1
      repeat' first
      | (with_reducible exact ih0 _ _ _)
      | (with_reducible exact ih1 _ _ _)
      | (with_reducible exact LeO.refl _)
      | (with_reducible exact LeO.none _)
      | (with_reducible refine LeO.ite ?_ ?_)
      | (with_reducible refine LeO.bind ?_ (fun _ => ?_))
      | exact ih0 _ _ _
      | exact ih1 _ _ _
      | exact LeO.none _
      | refine LeO.ite ?_ ?_
      | refine LeO.bind ?_ (fun _ => ?_)
theorem timesyncref03_Time.mono : ∀ a0 a1 k, LeO (timesyncref03_Time.f k a0 a1) (timesyncref03_Time.f (k + 1) a0 a1) := by
  intro a0 a1 k
  obtain ⟨ih0, ih1⟩ := timesyncref03_Time.mono_l k
  unfold timesyncref03_Time.f
  repeat' first
      | (with_reducible exact ih0 _ _ _)
      | (with_reducible exact ih1 _ _ _)
      | (with_reducible exact LeO.refl _)
      | (with_reducible exact LeO.none _)
      | (with_reducible refine LeO.ite ?_ ?_)
      | (with_reducible refine LeO.bind ?_ (fun _ => ?_))
      | exact ih0 _ _ _
      | exact ih1 _ _ _
      | exact LeO.none _
      | refine LeO.ite ?_ ?_
      | refine LeO.bind ?_ (fun _ => ?_)
set_option maxHeartbeats 8000000 in
set_option maxRecDepth 100000 in
theorem timesyncref03_Time.calls (k : Nat) (a0 : Int) (a1 : Int) (r1 : Int) (r2 : Int) (w : World) (h : timesyncref03_Time.f k a0 a1 = some (r1, r2)) :
    Calls Try.prog 28 #[.int .u64 a0, .int .i64 a1] w fun e w' => e = .returned (.tuple #[.int .i64 r1, .int .i64 r2]) ∧ Drawn0 w w' := by
  have H : (if a1 < (-8000000000000000000) then (timesyncref03_Time.j0 k a0 a1 true) else (timesyncref03_Time.j0 k a0 a1 (decide (a1 > 8000000000000000000)))) = some (r1, r2) := h
  clear h
  have HC3 := Aside0.mk H
  clear H
  go_enter Try.func28, Try.ntmps28
  go_upto_region 1 with (fail)
  go_cut [19] (fun v19 wc => ∃ (kq : Nat) (x19_2 : Bool), v19 = .bool x19_2 ∧ Aside0 (timesyncref03_Time.j0 kq a0 a1 x19_2 = some (r1, r2)) ∧ Aside0 (kq ≤ k) ∧ Drawn0 w wc)
  case first =>
    have H := HC3.out
    clear HC3
    by_cases c4 : a1 < (-8000000000000000000)
    · rw [if_pos c4] at H
      have c4b0 : decide (a1 < (-8000000000000000000)) = true := decide_eq_true c4
      clear c4
      (first | rw [c4b0] | (simp only [i64_w, i32_w]; rw [c4b0]) | skip)
      have H' := Aside0.mk H
      clear H
      go_wp2
      go_meet
      case rel => exact ⟨_, (true), (by first | rfl | (simp; done) | (simp [*]; done)), H', ⟨by first | omega | exact Nat.le_refl _⟩, by repeat (first | exact Drawn0.refl _ | apply Drawn0.step)⟩
    · rw [if_neg c4] at H
      have c4b0 : decide (a1 < (-8000000000000000000)) = false := decide_eq_false c4
      clear c4
      (first | rw [c4b0] | (simp only [i64_w, i32_w]; rw [c4b0]) | skip)
      have H' := Aside0.mk H
      clear H
      go_wp2
      go_meet
      case rel => exact ⟨_, (decide (a1 > 8000000000000000000)), (by first | rfl | (simp; done) | (simp [*]; done)), H', ⟨by first | omega | exact Nat.le_refl _⟩, by repeat (first | exact Drawn0.refl _ | apply Drawn0.step)⟩
  case rest =>
    clear HC3
    try clear c2
    try clear p2
    try clear c4
    try clear c4b0
    obtain ⟨kq, x19_2, rfl, HA, HJ2, ⟨mc2, rfl⟩⟩ := hcut
    cases kq with
    | zero => exact absurd HA.out (by simp [timesyncref03_Time.j0])
    | succ kj2 =>
      have H := HA.out
      clear HA
      simp only [timesyncref03_Time.j0] at H
      by_cases c5 : x19_2 = true
      · subst c5
        have H1 : (some (0, 2)) = some (r1, r2) := by rw [if_pos rfl] at H; exact H
        clear H
        have H := H1
        clear H1
        simp only [Option.some.injEq, Prod.mk.injEq] at H
        obtain ⟨rfl, rfl⟩ := H
        go_wp2
        go_ret2
        exact ⟨by first | rfl | (simp; done) | (simp [*]; done), by repeat (first | exact Drawn0.refl _ | apply Drawn0.step)⟩
      · replace c5 := Bool.eq_false_iff.mpr c5
        subst c5
        have H1 : ((timesyncref03_split.f a1).bind fun bt185 => ((timesyncref03_Of.f a1).bind fun t187 => ((timesyncref03_Diff.f a0 t187).bind fun t188 => (if (wrap64 ((wrap64 (bt185.1 + (t188 / 4294967296))) + ((wrap64 ((wrap64 (Int.tdiv (wrap64 (bt185.2 * 4294967296)) 1000000000)) + (Go.bits .and .i64 t188 4294967295))) / 4294967296))) > 8000000000 then (timesyncref03_Time.j1 kj2 (Go.bits .and .i64 (wrap64 ((wrap64 (Int.tdiv (wrap64 (bt185.2 * 4294967296)) 1000000000)) + (Go.bits .and .i64 t188 4294967295))) 4294967295) (wrap64 ((wrap64 (bt185.1 + (t188 / 4294967296))) + ((wrap64 ((wrap64 (Int.tdiv (wrap64 (bt185.2 * 4294967296)) 1000000000)) + (Go.bits .and .i64 t188 4294967295))) / 4294967296))) true) else (timesyncref03_Time.j1 kj2 (Go.bits .and .i64 (wrap64 ((wrap64 (Int.tdiv (wrap64 (bt185.2 * 4294967296)) 1000000000)) + (Go.bits .and .i64 t188 4294967295))) 4294967295) (wrap64 ((wrap64 (bt185.1 + (t188 / 4294967296))) + ((wrap64 ((wrap64 (Int.tdiv (wrap64 (bt185.2 * 4294967296)) 1000000000)) + (Go.bits .and .i64 t188 4294967295))) / 4294967296))) (decide ((wrap64 ((wrap64 (bt185.1 + (t188 / 4294967296))) + ((wrap64 ((wrap64 (Int.tdiv (wrap64 (bt185.2 * 4294967296)) 1000000000)) + (Go.bits .and .i64 t188 4294967295))) / 4294967296))) < ((-8000000000) - 1)))))))) = some (r1, r2) := by rw [if_neg (show ¬ (false = true) by decide)] at H; exact H
        clear H
        have H := H1
        clear H1
        replace H := Option.bind_eq_some_iff.mp H
        obtain ⟨⟨t185, t186⟩, A60, H⟩ := H
        replace H : ((timesyncref03_Of.f a1).bind fun t187 => ((timesyncref03_Diff.f a0 t187).bind fun t188 => (if (wrap64 ((wrap64 (t185 + (t188 / 4294967296))) + ((wrap64 ((wrap64 (Int.tdiv (wrap64 (t186 * 4294967296)) 1000000000)) + (Go.bits .and .i64 t188 4294967295))) / 4294967296))) > 8000000000 then (timesyncref03_Time.j1 kj2 (Go.bits .and .i64 (wrap64 ((wrap64 (Int.tdiv (wrap64 (t186 * 4294967296)) 1000000000)) + (Go.bits .and .i64 t188 4294967295))) 4294967295) (wrap64 ((wrap64 (t185 + (t188 / 4294967296))) + ((wrap64 ((wrap64 (Int.tdiv (wrap64 (t186 * 4294967296)) 1000000000)) + (Go.bits .and .i64 t188 4294967295))) / 4294967296))) true) else (timesyncref03_Time.j1 kj2 (Go.bits .and .i64 (wrap64 ((wrap64 (Int.tdiv (wrap64 (t186 * 4294967296)) 1000000000)) + (Go.bits .and .i64 t188 4294967295))) 4294967295) (wrap64 ((wrap64 (t185 + (t188 / 4294967296))) + ((wrap64 ((wrap64 (Int.tdiv (wrap64 (t186 * 4294967296)) 1000000000)) + (Go.bits .and .i64 t188 4294967295))) / 4294967296))) (decide ((wrap64 ((wrap64 (t185 + (t188 / 4294967296))) + ((wrap64 ((wrap64 (Int.tdiv (wrap64 (t186 * 4294967296)) 1000000000)) + (Go.bits .and .i64 t188 4294967295))) / 4294967296))) < ((-8000000000) - 1))))))) = some (r1, r2) := H
        have A6 := Aside0.mk A60
        clear A60
        replace H := Option.bind_eq_some_iff.mp H
        obtain ⟨t187, A70, H⟩ := H
        replace H : ((timesyncref03_Diff.f a0 t187).bind fun t188 => (if (wrap64 ((wrap64 (t185 + (t188 / 4294967296))) + ((wrap64 ((wrap64 (Int.tdiv (wrap64 (t186 * 4294967296)) 1000000000)) + (Go.bits .and .i64 t188 4294967295))) / 4294967296))) > 8000000000 then (timesyncref03_Time.j1 kj2 (Go.bits .and .i64 (wrap64 ((wrap64 (Int.tdiv (wrap64 (t186 * 4294967296)) 1000000000)) + (Go.bits .and .i64 t188 4294967295))) 4294967295) (wrap64 ((wrap64 (t185 + (t188 / 4294967296))) + ((wrap64 ((wrap64 (Int.tdiv (wrap64 (t186 * 4294967296)) 1000000000)) + (Go.bits .and .i64 t188 4294967295))) / 4294967296))) true) else (timesyncref03_Time.j1 kj2 (Go.bits .and .i64 (wrap64 ((wrap64 (Int.tdiv (wrap64 (t186 * 4294967296)) 1000000000)) + (Go.bits .and .i64 t188 4294967295))) 4294967295) (wrap64 ((wrap64 (t185 + (t188 / 4294967296))) + ((wrap64 ((wrap64 (Int.tdiv (wrap64 (t186 * 4294967296)) 1000000000)) + (Go.bits .and .i64 t188 4294967295))) / 4294967296))) (decide ((wrap64 ((wrap64 (t185 + (t188 / 4294967296))) + ((wrap64 ((wrap64 (Int.tdiv (wrap64 (t186 * 4294967296)) 1000000000)) + (Go.bits .and .i64 t188 4294967295))) / 4294967296))) < ((-8000000000) - 1)))))) = some (r1, r2) := H
        have A7 := Aside0.mk A70
        clear A70
        replace H := Option.bind_eq_some_iff.mp H
        obtain ⟨t188, A80, H⟩ := H
        replace H : (if (wrap64 ((wrap64 (t185 + (t188 / 4294967296))) + ((wrap64 ((wrap64 (Int.tdiv (wrap64 (t186 * 4294967296)) 1000000000)) + (Go.bits .and .i64 t188 4294967295))) / 4294967296))) > 8000000000 then (timesyncref03_Time.j1 kj2 (Go.bits .and .i64 (wrap64 ((wrap64 (Int.tdiv (wrap64 (t186 * 4294967296)) 1000000000)) + (Go.bits .and .i64 t188 4294967295))) 4294967295) (wrap64 ((wrap64 (t185 + (t188 / 4294967296))) + ((wrap64 ((wrap64 (Int.tdiv (wrap64 (t186 * 4294967296)) 1000000000)) + (Go.bits .and .i64 t188 4294967295))) / 4294967296))) true) else (timesyncref03_Time.j1 kj2 (Go.bits .and .i64 (wrap64 ((wrap64 (Int.tdiv (wrap64 (t186 * 4294967296)) 1000000000)) + (Go.bits .and .i64 t188 4294967295))) 4294967295) (wrap64 ((wrap64 (t185 + (t188 / 4294967296))) + ((wrap64 ((wrap64 (Int.tdiv (wrap64 (t186 * 4294967296)) 1000000000)) + (Go.bits .and .i64 t188 4294967295))) / 4294967296))) (decide ((wrap64 ((wrap64 (t185 + (t188 / 4294967296))) + ((wrap64 ((wrap64 (Int.tdiv (wrap64 (t186 * 4294967296)) 1000000000)) + (Go.bits .and .i64 t188 4294967295))) / 4294967296))) < ((-8000000000) - 1))))) = some (r1, r2) := H
        have A8 := Aside0.mk A80
        clear A80
        have HC9 := Aside0.mk H
        clear H
        go_upto_region 10 with (first | ((with_reducible refine gate_callee (f := 53) rfl ?_); refine goesL_ (some 22) rfl rfl Try.func53 (by kernel_rfl) rfl #[.int .i64 a1] rfl (by (try simp only [List.map_toArray, List.map_cons, List.map_nil]); first | done | rfl | (simp only [List.length_drop, List.length_take]; rfl)) ?_; (with_reducible refine (timesyncref03_split.calls a1 t185 t186 _ A6.out).mono ?_); rintro e w' ⟨rfl, ⟨nd, rfl⟩⟩; refine ⟨_, rfl, ?_⟩) | ((with_reducible refine gate_callee (f := 15) rfl ?_); refine goesL_ (some 30) rfl rfl Try.func15 (by kernel_rfl) rfl #[.int .i64 a1] rfl (by (try simp only [List.map_toArray, List.map_cons, List.map_nil]); first | done | rfl | (simp only [List.length_drop, List.length_take]; rfl)) ?_; (with_reducible refine (timesyncref03_Of.calls a1 t187 _ A7.out).mono ?_); rintro e w' ⟨rfl, ⟨nd, rfl⟩⟩; refine ⟨_, rfl, ?_⟩) | ((with_reducible refine gate_callee (f := 38) rfl ?_); refine goesL_ (some 31) rfl rfl Try.func38 (by kernel_rfl) rfl #[.int .u64 a0, .int .u64 t187] rfl (by (try simp only [List.map_toArray, List.map_cons, List.map_nil]); first | done | rfl | (simp only [List.length_drop, List.length_take]; rfl)) ?_; (with_reducible refine (timesyncref03_Diff.calls a0 t187 t188 _ A8.out).mono ?_); rintro e w' ⟨rfl, ⟨nd, rfl⟩⟩; refine ⟨_, rfl, ?_⟩))
        (try simp only [Act.put, List.setIfInBounds_toArray, List.set_cons_zero, List.set_cons_succ])
        go_cut [54] (fun v54 wc => ∃ (kq : Nat) (x54_8 : Bool), v54 = .bool x54_8 ∧ Aside0 (timesyncref03_Time.j1 kq (Go.bits .and .i64 (wrap64 ((wrap64 (Int.tdiv (wrap64 (t186 * 4294967296)) 1000000000)) + (Go.bits .and .i64 t188 4294967295))) 4294967295) (wrap64 ((wrap64 (t185 + (t188 / 4294967296))) + ((wrap64 ((wrap64 (Int.tdiv (wrap64 (t186 * 4294967296)) 1000000000)) + (Go.bits .and .i64 t188 4294967295))) / 4294967296))) x54_8 = some (r1, r2)) ∧ Aside0 (kq ≤ kj2) ∧ Drawn0 w wc)
        case first =>
          have H := HC9.out
          clear HC9
          by_cases c10 : (wrap64 ((wrap64 (t185 + (t188 / 4294967296))) + ((wrap64 ((wrap64 (Int.tdiv (wrap64 (t186 * 4294967296)) 1000000000)) + (Go.bits .and .i64 t188 4294967295))) / 4294967296))) > 8000000000
          · rw [if_pos c10] at H
            have c10b0 : decide (8000000000 < (wrap64 ((wrap64 (t185 + (t188 / 4294967296))) + ((wrap64 ((wrap64 (Int.tdiv (wrap64 (t186 * 4294967296)) 1000000000)) + (Go.bits .and .i64 t188 4294967295))) / 4294967296)))) = true := decide_eq_true c10
            clear c10
            (first | rw [c10b0] | (simp only [i64_w, i32_w]; rw [c10b0]) | skip)
            have H' := Aside0.mk H
            clear H
            go_wp2
            go_meet
            case rel => exact ⟨_, (true), (by first | rfl | (simp; done) | (simp [*]; done)), H', ⟨by have := HJ2.out; first | omega | exact Nat.le_refl _⟩, by repeat (first | exact Drawn0.refl _ | apply Drawn0.step)⟩
          · rw [if_neg c10] at H
            have c10b0 : decide (8000000000 < (wrap64 ((wrap64 (t185 + (t188 / 4294967296))) + ((wrap64 ((wrap64 (Int.tdiv (wrap64 (t186 * 4294967296)) 1000000000)) + (Go.bits .and .i64 t188 4294967295))) / 4294967296)))) = false := decide_eq_false c10
            clear c10
            (first | rw [c10b0] | (simp only [i64_w, i32_w]; rw [c10b0]) | skip)
            have H' := Aside0.mk H
            clear H
            go_wp2
            go_meet
            case rel => exact ⟨_, (decide ((wrap64 ((wrap64 (t185 + (t188 / 4294967296))) + ((wrap64 ((wrap64 (Int.tdiv (wrap64 (t186 * 4294967296)) 1000000000)) + (Go.bits .and .i64 t188 4294967295))) / 4294967296))) < ((-8000000000) - 1))), (by first | rfl | (simp; done) | (simp [*]; done)), H', ⟨by have := HJ2.out; first | omega | exact Nat.le_refl _⟩, by repeat (first | exact Drawn0.refl _ | apply Drawn0.step)⟩
        case rest =>
          clear HC9
          try clear c1
          try clear c2
          try clear p2
          try clear c3
          try clear c4
          try clear c4b0
          try clear c5
          try clear p6
          try clear c10
          try clear c10b0
          try clear p2
          obtain ⟨kq, x54_8, rfl, HA, HJ8, ⟨mc8, rfl⟩⟩ := hcut
          cases kq with
          | zero => exact absurd HA.out (by simp [timesyncref03_Time.j1])
          | succ kj8 =>
            have H := HA.out
            clear HA
            simp only [timesyncref03_Time.j1] at H
            by_cases c11 : x54_8 = true
            · subst c11
              have H1 : (some (0, 3)) = some (r1, r2) := by rw [if_pos rfl] at H; exact H
              clear H
              have H := H1
              clear H1
              simp only [Option.some.injEq, Prod.mk.injEq] at H
              obtain ⟨rfl, rfl⟩ := H
              go_wp2
              go_ret2
              exact ⟨by first | rfl | (simp; done) | (simp [*]; done), by repeat (first | exact Drawn0.refl _ | apply Drawn0.step)⟩
            · replace c11 := Bool.eq_false_iff.mpr c11
              subst c11
              have H1 : ((timesyncref03_above.f (Go.bits .and .i64 (wrap64 ((wrap64 (Int.tdiv (wrap64 (t186 * 4294967296)) 1000000000)) + (Go.bits .and .i64 t188 4294967295))) 4294967295)).bind fun t189 => (if (wrap64 ((wrap64 ((wrap64 ((wrap64 (t185 + (t188 / 4294967296))) + ((wrap64 ((wrap64 (Int.tdiv (wrap64 (t186 * 4294967296)) 1000000000)) + (Go.bits .and .i64 t188 4294967295))) / 4294967296))) * 1000000000)) + t189)) < (-8000000000000000000) then (some (0, 3)) else (if (wrap64 ((wrap64 ((wrap64 ((wrap64 (t185 + (t188 / 4294967296))) + ((wrap64 ((wrap64 (Int.tdiv (wrap64 (t186 * 4294967296)) 1000000000)) + (Go.bits .and .i64 t188 4294967295))) / 4294967296))) * 1000000000)) + t189)) > 8000000000000000000 then (some (0, 3)) else (some (wrap64 ((wrap64 ((wrap64 ((wrap64 (t185 + (t188 / 4294967296))) + ((wrap64 ((wrap64 (Int.tdiv (wrap64 (t186 * 4294967296)) 1000000000)) + (Go.bits .and .i64 t188 4294967295))) / 4294967296))) * 1000000000)) + t189), 0))))) = some (r1, r2) := by rw [if_neg (show ¬ (false = true) by decide)] at H; exact H
              clear H
              have H := H1
              clear H1
              replace H := Option.bind_eq_some_iff.mp H
              obtain ⟨t189, A120, H⟩ := H
              replace H : (if (wrap64 ((wrap64 ((wrap64 ((wrap64 (t185 + (t188 / 4294967296))) + ((wrap64 ((wrap64 (Int.tdiv (wrap64 (t186 * 4294967296)) 1000000000)) + (Go.bits .and .i64 t188 4294967295))) / 4294967296))) * 1000000000)) + t189)) < (-8000000000000000000) then (some (0, 3)) else (if (wrap64 ((wrap64 ((wrap64 ((wrap64 (t185 + (t188 / 4294967296))) + ((wrap64 ((wrap64 (Int.tdiv (wrap64 (t186 * 4294967296)) 1000000000)) + (Go.bits .and .i64 t188 4294967295))) / 4294967296))) * 1000000000)) + t189)) > 8000000000000000000 then (some (0, 3)) else (some (wrap64 ((wrap64 ((wrap64 ((wrap64 (t185 + (t188 / 4294967296))) + ((wrap64 ((wrap64 (Int.tdiv (wrap64 (t186 * 4294967296)) 1000000000)) + (Go.bits .and .i64 t188 4294967295))) / 4294967296))) * 1000000000)) + t189), 0)))) = some (r1, r2) := H
              have A12 := Aside0.mk A120
              clear A120
              by_cases c13 : (wrap64 ((wrap64 ((wrap64 ((wrap64 (t185 + (t188 / 4294967296))) + ((wrap64 ((wrap64 (Int.tdiv (wrap64 (t186 * 4294967296)) 1000000000)) + (Go.bits .and .i64 t188 4294967295))) / 4294967296))) * 1000000000)) + t189)) < (-8000000000000000000)
              · rw [if_pos c13] at H
                have c13b0 : decide ((wrap64 ((wrap64 ((wrap64 ((wrap64 (t185 + (t188 / 4294967296))) + ((wrap64 ((wrap64 (Int.tdiv (wrap64 (t186 * 4294967296)) 1000000000)) + (Go.bits .and .i64 t188 4294967295))) / 4294967296))) * 1000000000)) + t189)) < (-8000000000000000000)) = true := decide_eq_true c13
                clear c13
                simp only [Option.some.injEq, Prod.mk.injEq] at H
                obtain ⟨rfl, rfl⟩ := H
                go_wp2_with (first | ((with_reducible refine gate_callee (f := 63) rfl ?_); refine goesL_ (some 58) rfl rfl Try.func63 (by kernel_rfl) rfl #[.int .i64 (Go.bits .and .i64 (wrap64 ((wrap64 (Int.tdiv (wrap64 (t186 * 4294967296)) 1000000000)) + (Go.bits .and .i64 t188 4294967295))) 4294967295)] rfl (by (try simp only [List.map_toArray, List.map_cons, List.map_nil]); first | done | rfl | (simp only [List.length_drop, List.length_take]; rfl)) ?_; (with_reducible refine (timesyncref03_above.calls (Go.bits .and .i64 (wrap64 ((wrap64 (Int.tdiv (wrap64 (t186 * 4294967296)) 1000000000)) + (Go.bits .and .i64 t188 4294967295))) 4294967295) t189 _ A12.out).mono ?_); rintro e w' ⟨rfl, ⟨nd, rfl⟩⟩; refine ⟨_, rfl, ?_⟩))
                go_ret2
                exact ⟨by first | rfl | (simp; done) | (simp [*]; done), by repeat (first | exact Drawn0.refl _ | apply Drawn0.step)⟩
              · rw [if_neg c13] at H
                have c13b0 : decide ((wrap64 ((wrap64 ((wrap64 ((wrap64 (t185 + (t188 / 4294967296))) + ((wrap64 ((wrap64 (Int.tdiv (wrap64 (t186 * 4294967296)) 1000000000)) + (Go.bits .and .i64 t188 4294967295))) / 4294967296))) * 1000000000)) + t189)) < (-8000000000000000000)) = false := decide_eq_false c13
                clear c13
                by_cases c14 : (wrap64 ((wrap64 ((wrap64 ((wrap64 (t185 + (t188 / 4294967296))) + ((wrap64 ((wrap64 (Int.tdiv (wrap64 (t186 * 4294967296)) 1000000000)) + (Go.bits .and .i64 t188 4294967295))) / 4294967296))) * 1000000000)) + t189)) > 8000000000000000000
                · rw [if_pos c14] at H
                  have c14b0 : decide (8000000000000000000 < (wrap64 ((wrap64 ((wrap64 ((wrap64 (t185 + (t188 / 4294967296))) + ((wrap64 ((wrap64 (Int.tdiv (wrap64 (t186 * 4294967296)) 1000000000)) + (Go.bits .and .i64 t188 4294967295))) / 4294967296))) * 1000000000)) + t189))) = true := decide_eq_true c14
                  clear c14
                  simp only [Option.some.injEq, Prod.mk.injEq] at H
                  obtain ⟨rfl, rfl⟩ := H
                  go_wp2_with (first | ((with_reducible refine gate_callee (f := 63) rfl ?_); refine goesL_ (some 58) rfl rfl Try.func63 (by kernel_rfl) rfl #[.int .i64 (Go.bits .and .i64 (wrap64 ((wrap64 (Int.tdiv (wrap64 (t186 * 4294967296)) 1000000000)) + (Go.bits .and .i64 t188 4294967295))) 4294967295)] rfl (by (try simp only [List.map_toArray, List.map_cons, List.map_nil]); first | done | rfl | (simp only [List.length_drop, List.length_take]; rfl)) ?_; (with_reducible refine (timesyncref03_above.calls (Go.bits .and .i64 (wrap64 ((wrap64 (Int.tdiv (wrap64 (t186 * 4294967296)) 1000000000)) + (Go.bits .and .i64 t188 4294967295))) 4294967295) t189 _ A12.out).mono ?_); rintro e w' ⟨rfl, ⟨nd, rfl⟩⟩; refine ⟨_, rfl, ?_⟩))
                  go_ret2
                  exact ⟨by first | rfl | (simp; done) | (simp [*]; done), by repeat (first | exact Drawn0.refl _ | apply Drawn0.step)⟩
                · rw [if_neg c14] at H
                  have c14b0 : decide (8000000000000000000 < (wrap64 ((wrap64 ((wrap64 ((wrap64 (t185 + (t188 / 4294967296))) + ((wrap64 ((wrap64 (Int.tdiv (wrap64 (t186 * 4294967296)) 1000000000)) + (Go.bits .and .i64 t188 4294967295))) / 4294967296))) * 1000000000)) + t189))) = false := decide_eq_false c14
                  clear c14
                  simp only [Option.some.injEq, Prod.mk.injEq] at H
                  obtain ⟨rfl, rfl⟩ := H
                  go_wp2_with (first | ((with_reducible refine gate_callee (f := 63) rfl ?_); refine goesL_ (some 58) rfl rfl Try.func63 (by kernel_rfl) rfl #[.int .i64 (Go.bits .and .i64 (wrap64 ((wrap64 (Int.tdiv (wrap64 (t186 * 4294967296)) 1000000000)) + (Go.bits .and .i64 t188 4294967295))) 4294967295)] rfl (by (try simp only [List.map_toArray, List.map_cons, List.map_nil]); first | done | rfl | (simp only [List.length_drop, List.length_take]; rfl)) ?_; (with_reducible refine (timesyncref03_above.calls (Go.bits .and .i64 (wrap64 ((wrap64 (Int.tdiv (wrap64 (t186 * 4294967296)) 1000000000)) + (Go.bits .and .i64 t188 4294967295))) 4294967295) t189 _ A12.out).mono ?_); rintro e w' ⟨rfl, ⟨nd, rfl⟩⟩; refine ⟨_, rfl, ?_⟩))
                  go_ret2
                  exact ⟨by first | rfl | (simp; done) | (simp [*]; done), by repeat (first | exact Drawn0.refl _ | apply Drawn0.step)⟩

/-! ### timesynclaw03_StampTime: function 5 -/
def timesynclaw03_StampTime.f (k : Nat) (a0 : Int) (a1 : Int) : Option (Bool) := (stamp_Time.f k a0 a1).bind fun bt190 => ((timesyncref03_Time.f k a0 a1).bind fun bt192 => (if bt190.1 = bt192.1 then (if bt190.2 = bt192.2 then ((timesynclaw03_awake.f k).bind fun t194 => (some t194)) else (some false)) else (some false)))
theorem timesynclaw03_StampTime.mono : ∀ a0 a1 k, LeO (timesynclaw03_StampTime.f k a0 a1) (timesynclaw03_StampTime.f (k + 1) a0 a1) := by
  intro a0 a1 k
  unfold timesynclaw03_StampTime.f
  repeat' first
      | (with_reducible exact stamp_Time.mono _ _ _)
      | (with_reducible exact timesynclaw03_awake.mono _)
      | (with_reducible exact timesyncref03_Time.mono _ _ _)
      | (with_reducible exact LeO.refl _)
      | (with_reducible exact LeO.none _)
      | (with_reducible refine LeO.ite ?_ ?_)
      | (with_reducible refine LeO.bind ?_ (fun _ => ?_))
      | exact stamp_Time.mono _ _ _
      | exact timesynclaw03_awake.mono _
      | exact timesyncref03_Time.mono _ _ _
      | exact LeO.none _
      | refine LeO.ite ?_ ?_
      | refine LeO.bind ?_ (fun _ => ?_)
set_option maxHeartbeats 8000000 in
set_option maxRecDepth 100000 in
theorem timesynclaw03_StampTime.calls (k : Nat) (a0 : Int) (a1 : Int) (r : Bool) (w : World) (h : timesynclaw03_StampTime.f k a0 a1 = some r) :
    Calls Try.prog 5 #[.int .u64 a0, .int .i64 a1] w fun e w' => e = .returned (.bool r) ∧ Below w.heap.size w w' := by
  have HB := Aside0.mk (Below.refl w.heap.size w)
  have H : ((stamp_Time.f k a0 a1).bind fun bt190 => ((timesyncref03_Time.f k a0 a1).bind fun bt192 => (if bt190.1 = bt192.1 then (if bt190.2 = bt192.2 then ((timesynclaw03_awake.f k).bind fun t194 => (some t194)) else (some false)) else (some false)))) = some r := h
  clear h
  replace H := Option.bind_eq_some_iff.mp H
  obtain ⟨⟨t190, t191⟩, A30, H⟩ := H
  replace H : ((timesyncref03_Time.f k a0 a1).bind fun bt192 => (if t190 = bt192.1 then (if t191 = bt192.2 then ((timesynclaw03_awake.f k).bind fun t194 => (some t194)) else (some false)) else (some false))) = some r := H
  have A3 := Aside0.mk A30
  clear A30
  replace H := Option.bind_eq_some_iff.mp H
  obtain ⟨⟨t192, t193⟩, A40, H⟩ := H
  replace H : (if t190 = t192 then (if t191 = t193 then ((timesynclaw03_awake.f k).bind fun t194 => (some t194)) else (some false)) else (some false)) = some r := H
  have A4 := Aside0.mk A40
  clear A40
  by_cases c5 : t190 = t192
  · rw [if_pos c5] at H
    have c5b0 : (t190 == t192) = true := beq_iff_eq.mpr c5
    have c5b1 : (t190 != t192) = false := bne_eq_false_iff_eq.mpr c5
    clear c5
    by_cases c6 : t191 = t193
    · rw [if_pos c6] at H
      have c6b0 : (t191 == t193) = true := beq_iff_eq.mpr c6
      have c6b1 : (t191 != t193) = false := bne_eq_false_iff_eq.mpr c6
      clear c6
      replace H := Option.bind_eq_some_iff.mp H
      obtain ⟨t194, A70, H⟩ := H
      replace H : (some t194) = some r := H
      have A7 := Aside0.mk A70
      clear A70
      obtain rfl := Option.some.inj H
      go_enter Try.func5, Try.ntmps5
      go_wp2_with (first | ((with_reducible refine gate_callee (f := 27) rfl ?_); refine goesL_ (some 12) rfl rfl Try.func27 (by kernel_rfl) rfl #[.int .u64 a0, .int .i64 a1] rfl (by (try simp only [List.map_toArray, List.map_cons, List.map_nil]); first | done | rfl | (simp only [List.length_drop, List.length_take]; rfl)) ?_; (with_reducible refine (stamp_Time.calls k a0 a1 t190 t191 _ A3.out).mono ?_); rintro e w' ⟨rfl, ⟨nd, rfl⟩⟩; refine ⟨_, rfl, ?_⟩) | ((with_reducible refine gate_callee (f := 28) rfl ?_); refine goesL_ (some 18) rfl rfl Try.func28 (by kernel_rfl) rfl #[.int .u64 a0, .int .i64 a1] rfl (by (try simp only [List.map_toArray, List.map_cons, List.map_nil]); first | done | rfl | (simp only [List.length_drop, List.length_take]; rfl)) ?_; (with_reducible refine (timesyncref03_Time.calls k a0 a1 t192 t193 _ A4.out).mono ?_); rintro e w' ⟨rfl, ⟨nd, rfl⟩⟩; refine ⟨_, rfl, ?_⟩) | (go_at_call 18; (with_reducible refine (timesynclaw03_awake.calls k  t194 _ A7.out).mono ?_); rintro e w8 ⟨rfl, hb⟩; have n0_ := Aside0.mk (below_step (by repeat (first | (with_reducible first | exact HB.out | apply below_alloc | apply pw_below_drewN | apply below_drew1) | exact HB.out)) hb); clear HB; have HB := n0_; clear n0_; (try clear hb); (try clear hb2); (try clear hk); (try clear hi)))
      go_ret
      exact ⟨by first | rfl | (simp [errW_none, errW_some] <;> rfl) | (simp [*, errW_none, errW_some] <;> rfl), by repeat (first | (with_reducible first | exact HB.out | apply below_alloc | apply pw_below_drewN | apply below_drew1) | exact HB.out)⟩
    · rw [if_neg c6] at H
      have c6b0 : (t191 == t193) = false := beq_eq_false_iff_ne.mpr c6
      have c6b1 : (t191 != t193) = true := bne_iff_ne.mpr c6
      obtain rfl := Option.some.inj H
      go_enter Try.func5, Try.ntmps5
      go_wp2_with (first | ((with_reducible refine gate_callee (f := 27) rfl ?_); refine goesL_ (some 12) rfl rfl Try.func27 (by kernel_rfl) rfl #[.int .u64 a0, .int .i64 a1] rfl (by (try simp only [List.map_toArray, List.map_cons, List.map_nil]); first | done | rfl | (simp only [List.length_drop, List.length_take]; rfl)) ?_; (with_reducible refine (stamp_Time.calls k a0 a1 t190 t191 _ A3.out).mono ?_); rintro e w' ⟨rfl, ⟨nd, rfl⟩⟩; refine ⟨_, rfl, ?_⟩) | ((with_reducible refine gate_callee (f := 28) rfl ?_); refine goesL_ (some 18) rfl rfl Try.func28 (by kernel_rfl) rfl #[.int .u64 a0, .int .i64 a1] rfl (by (try simp only [List.map_toArray, List.map_cons, List.map_nil]); first | done | rfl | (simp only [List.length_drop, List.length_take]; rfl)) ?_; (with_reducible refine (timesyncref03_Time.calls k a0 a1 t192 t193 _ A4.out).mono ?_); rintro e w' ⟨rfl, ⟨nd, rfl⟩⟩; refine ⟨_, rfl, ?_⟩))
      go_ret
      exact ⟨by first | rfl | (simp [errW_none, errW_some] <;> rfl) | (simp [*, errW_none, errW_some] <;> rfl), by repeat (first | (with_reducible first | exact HB.out | apply below_alloc | apply pw_below_drewN | apply below_drew1) | exact HB.out)⟩
  · rw [if_neg c5] at H
    have c5b0 : (t190 == t192) = false := beq_eq_false_iff_ne.mpr c5
    have c5b1 : (t190 != t192) = true := bne_iff_ne.mpr c5
    obtain rfl := Option.some.inj H
    go_enter Try.func5, Try.ntmps5
    go_wp2_with (first | ((with_reducible refine gate_callee (f := 27) rfl ?_); refine goesL_ (some 12) rfl rfl Try.func27 (by kernel_rfl) rfl #[.int .u64 a0, .int .i64 a1] rfl (by (try simp only [List.map_toArray, List.map_cons, List.map_nil]); first | done | rfl | (simp only [List.length_drop, List.length_take]; rfl)) ?_; (with_reducible refine (stamp_Time.calls k a0 a1 t190 t191 _ A3.out).mono ?_); rintro e w' ⟨rfl, ⟨nd, rfl⟩⟩; refine ⟨_, rfl, ?_⟩) | ((with_reducible refine gate_callee (f := 28) rfl ?_); refine goesL_ (some 18) rfl rfl Try.func28 (by kernel_rfl) rfl #[.int .u64 a0, .int .i64 a1] rfl (by (try simp only [List.map_toArray, List.map_cons, List.map_nil]); first | done | rfl | (simp only [List.length_drop, List.length_take]; rfl)) ?_; (with_reducible refine (timesyncref03_Time.calls k a0 a1 t192 t193 _ A4.out).mono ?_); rintro e w' ⟨rfl, ⟨nd, rfl⟩⟩; refine ⟨_, rfl, ?_⟩))
    go_ret
    exact ⟨by first | rfl | (simp [errW_none, errW_some] <;> rfl) | (simp [*, errW_none, errW_some] <;> rfl), by repeat (first | (with_reducible first | exact HB.out | apply below_alloc | apply pw_below_drewN | apply below_drew1) | exact HB.out)⟩

/-- THE ONE PURE STATEMENT of timesynclaw03_StampTime: yours. -/
def timesynclaw03_StampTime.Pure : Prop := ∀ (a0 : Int) (a1 : Int), (Lit.int .u64 a0).wf = true → (Lit.int .i64 a1).wf = true → ∃ k, timesynclaw03_StampTime.f k a0 a1 = some true
theorem timesynclaw03_StampTime.walk (P : timesynclaw03_StampTime.Pure) (a0 : Int) (a1 : Int) (w : World) (w0 : (Lit.int .u64 a0).wf = true) (w1 : (Lit.int .i64 a1).wf = true) :
    Calls Try.prog 5 #[.int .u64 a0, .int .i64 a1] w fun e w' => e = .returned (.bool true) ∧ Below w.heap.size w w' := by
  obtain ⟨k, h⟩ := P a0 a1 w0 w1
  refine (timesynclaw03_StampTime.calls k a0 a1 true w h).mono ?_
  rintro e w' ⟨rfl, hd⟩
  exact ⟨rfl, hd⟩

/-! ### timesynclaw03_inside: function 29 -/
def timesynclaw03_inside.f (a0 : Int) : Option (Bool) := if a0 ≥ (-8000000000000000000) then (some (decide (a0 ≤ 8000000000000000000))) else (some false)
set_option maxHeartbeats 8000000 in
set_option maxRecDepth 100000 in
theorem timesynclaw03_inside.calls (a0 : Int) (r : Bool) (w : World) (h : timesynclaw03_inside.f a0 = some r) :
    Calls Try.prog 29 #[.int .i64 a0] w fun e w' => e = .returned (.bool r) ∧ Drawn0 w w' := by
  have H : (if a0 ≥ (-8000000000000000000) then (some (decide (a0 ≤ 8000000000000000000))) else (some false)) = some r := h
  clear h
  by_cases c2 : a0 ≥ (-8000000000000000000)
  · rw [if_pos c2] at H
    have c2b0 : decide ((-8000000000000000000) ≤ a0) = true := decide_eq_true c2
    clear c2
    obtain rfl := Option.some.inj H
    go_enter Try.func29, Try.ntmps29
    go_wp2
    go_ret
    exact ⟨by first | rfl | (simp; done) | (simp [*]; done), by repeat (first | exact Drawn0.refl _ | apply Drawn0.step)⟩
  · rw [if_neg c2] at H
    have c2b0 : decide ((-8000000000000000000) ≤ a0) = false := decide_eq_false c2
    clear c2
    obtain rfl := Option.some.inj H
    go_enter Try.func29, Try.ntmps29
    go_wp2
    go_ret
    exact ⟨by first | rfl | (simp; done) | (simp [*]; done), by repeat (first | exact Drawn0.refl _ | apply Drawn0.step)⟩

end Go.Proofs.Ytdpdpljbmncmeaa.PSt
