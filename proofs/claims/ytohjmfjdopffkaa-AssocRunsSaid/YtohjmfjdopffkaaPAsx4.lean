-- Printed for this claim by this session's turned copy of the print (wip/tools/xprint.sh)
import Derived.Test.YtohjmfjdopffkaaPAsx0
import Derived.Test.YtohjmfjdopffkaaPAsx1
import Derived.Test.YtohjmfjdopffkaaPAsx3
namespace Go.Proofs.Ytohjmfjdopffkaa.PAs
open Go.RowKit Go.Proofs.YtohjmfjdopffkaaW.PrintWords Go.Proofs.YtohjmfjdopffkaaW.PrintLast Go.Proofs.YtohjmfjdopffkaaW.PrintMore
attribute [local go_sem] max2_int min2_int max_two min_two max_three min_three max_four min_four   -- for this text's walks alone
set_option linter.unusedVariables false
set_option linter.unusedSimpArgs false

/-! ### assoc_found: function 37 -/
def assoc_found.f (k : Nat) (a0 : Int) (a1 : Int) : Option (Int × Bool) := (stamp_Time.f k a0 (wrap64 (3900000000000000000 + a1))).bind fun bt156 => (if bt156.2 = 0 then ((assoc_inside.f (wrap64 (bt156.1 - 3900000000000000000))).bind fun t158 => (some (wrap64 (bt156.1 - 3900000000000000000), t158))) else (some (wrap64 (bt156.1 - 3900000000000000000), false)))
theorem assoc_found.mono : ∀ a0 a1 k, LeO (assoc_found.f k a0 a1) (assoc_found.f (k + 1) a0 a1) := by
  intro a0 a1 k
  unfold assoc_found.f
  repeat' first
      | (with_reducible exact stamp_Time.mono _ _ _)
      | (with_reducible exact LeO.refl _)
      | (with_reducible exact LeO.none _)
      | (with_reducible refine LeO.ite ?_ ?_)
      | (with_reducible refine LeO.bind ?_ (fun _ => ?_))
      | exact stamp_Time.mono _ _ _
      | exact LeO.none _
      | refine LeO.ite ?_ ?_
      | refine LeO.bind ?_ (fun _ => ?_)
set_option maxHeartbeats 8000000 in
set_option maxRecDepth 100000 in
theorem assoc_found.calls (k : Nat) (a0 : Int) (a1 : Int) (r1 : Int) (r2 : Bool) (w : World) (h : assoc_found.f k a0 a1 = some (r1, r2)) :
    Calls Try.prog 37 #[.int .u64 a0, .int .i64 a1] w fun e w' => e = .returned (.tuple #[.int .i64 r1, .bool r2]) ∧ Drawn0 w w' := by
  have H : ((stamp_Time.f k a0 (wrap64 (3900000000000000000 + a1))).bind fun bt156 => (if bt156.2 = 0 then ((assoc_inside.f (wrap64 (bt156.1 - 3900000000000000000))).bind fun t158 => (some (wrap64 (bt156.1 - 3900000000000000000), t158))) else (some (wrap64 (bt156.1 - 3900000000000000000), false)))) = some (r1, r2) := h
  clear h
  replace H := Option.bind_eq_some_iff.mp H
  obtain ⟨⟨t156, t157⟩, A30, H⟩ := H
  replace H : (if t157 = 0 then ((assoc_inside.f (wrap64 (t156 - 3900000000000000000))).bind fun t158 => (some (wrap64 (t156 - 3900000000000000000), t158))) else (some (wrap64 (t156 - 3900000000000000000), false))) = some (r1, r2) := H
  have A3 := Aside0.mk A30
  clear A30
  by_cases c4 : t157 = 0
  · rw [if_pos c4] at H
    have c4b0 : (t157 == 0) = true := beq_iff_eq.mpr c4
    have c4b1 : (t157 != 0) = false := bne_eq_false_iff_eq.mpr c4
    clear c4
    replace H := Option.bind_eq_some_iff.mp H
    obtain ⟨t158, A50, H⟩ := H
    replace H : (some (wrap64 (t156 - 3900000000000000000), t158)) = some (r1, r2) := H
    have A5 := Aside0.mk A50
    clear A50
    simp only [Option.some.injEq, Prod.mk.injEq] at H
    obtain ⟨rfl, rfl⟩ := H
    go_enter Try.func37, Try.ntmps37
    go_wp2_with (first | ((with_reducible refine gate_callee (f := 45) rfl ?_); refine goesL_ (some 12) rfl rfl Try.func45 (by kernel_rfl) rfl #[.int .u64 a0, .int .i64 (wrap64 (3900000000000000000 + a1))] rfl (by (try simp only [List.map_toArray, List.map_cons, List.map_nil]); first | done | rfl | (simp only [List.length_drop, List.length_take]; rfl)) ?_; (with_reducible refine (stamp_Time.calls k a0 (wrap64 (3900000000000000000 + a1)) t156 t157 _ A3.out).mono ?_); rintro e w' ⟨rfl, ⟨nd, rfl⟩⟩; refine ⟨_, rfl, ?_⟩) | (go_at_call 25; (with_reducible refine (assoc_inside.calls (wrap64 (t156 - 3900000000000000000)) t158 _ A5.out).mono ?_); rintro e w' ⟨rfl, ⟨nd, rfl⟩⟩))
    go_ret2
    exact ⟨by first | rfl | (simp; done) | (simp [*]; done), by repeat (first | exact Drawn0.refl _ | apply Drawn0.step)⟩
  · rw [if_neg c4] at H
    have c4b0 : (t157 == 0) = false := beq_eq_false_iff_ne.mpr c4
    have c4b1 : (t157 != 0) = true := bne_iff_ne.mpr c4
    simp only [Option.some.injEq, Prod.mk.injEq] at H
    obtain ⟨rfl, rfl⟩ := H
    go_enter Try.func37, Try.ntmps37
    go_wp2_with (first | ((with_reducible refine gate_callee (f := 45) rfl ?_); refine goesL_ (some 12) rfl rfl Try.func45 (by kernel_rfl) rfl #[.int .u64 a0, .int .i64 (wrap64 (3900000000000000000 + a1))] rfl (by (try simp only [List.map_toArray, List.map_cons, List.map_nil]); first | done | rfl | (simp only [List.length_drop, List.length_take]; rfl)) ?_; (with_reducible refine (stamp_Time.calls k a0 (wrap64 (3900000000000000000 + a1)) t156 t157 _ A3.out).mono ?_); rintro e w' ⟨rfl, ⟨nd, rfl⟩⟩; refine ⟨_, rfl, ?_⟩))
    go_ret2
    exact ⟨by first | rfl | (simp; done) | (simp [*]; done), by repeat (first | exact Drawn0.refl _ | apply Drawn0.step)⟩

-- NOT PRINTED: function 27 (assoc_Assoc_heard)

-- NOT PRINTED: function 14 (assoc_Assoc_Receive)

-- NOT PRINTED: function 30 (slices_Clone_int_int)

-- NOT PRINTED: function 16 (assoc_Assoc_Counts)

-- NOT PRINTED: function 18 (assoc_Assoc_Pending)

/-! ### timesyncref03_split: function 33 -/
def timesyncref03_split.f (a0 : Int) : Option (Int × Int) := if (Int.tmod a0 1000000000) < 0 then (some (wrap64 ((wrap64 (Int.tdiv a0 1000000000)) - 1), wrap64 ((Int.tmod a0 1000000000) + 1000000000))) else (some (wrap64 (Int.tdiv a0 1000000000), Int.tmod a0 1000000000))
set_option maxHeartbeats 8000000 in
set_option maxRecDepth 100000 in
theorem timesyncref03_split.calls (a0 : Int) (r1 : Int) (r2 : Int) (w : World) (h : timesyncref03_split.f a0 = some (r1, r2)) :
    Calls Try.prog 33 #[.int .i64 a0] w fun e w' => e = .returned (.tuple #[.int .i64 r1, .int .i64 r2]) ∧ Drawn0 w w' := by
  have H : (if (Int.tmod a0 1000000000) < 0 then (some (wrap64 ((wrap64 (Int.tdiv a0 1000000000)) - 1), wrap64 ((Int.tmod a0 1000000000) + 1000000000))) else (some (wrap64 (Int.tdiv a0 1000000000), Int.tmod a0 1000000000))) = some (r1, r2) := h
  clear h
  by_cases c2 : (Int.tmod a0 1000000000) < 0
  · rw [if_pos c2] at H
    have c2b0 : decide ((Int.tmod a0 1000000000) < 0) = true := decide_eq_true c2
    clear c2
    simp only [Option.some.injEq, Prod.mk.injEq] at H
    obtain ⟨rfl, rfl⟩ := H
    go_enter Try.func33, Try.ntmps33
    go_wp2
    go_ret2
    exact ⟨by first | rfl | (simp; done) | (simp [*]; done), by repeat (first | exact Drawn0.refl _ | apply Drawn0.step)⟩
  · rw [if_neg c2] at H
    have c2b0 : decide ((Int.tmod a0 1000000000) < 0) = false := decide_eq_false c2
    clear c2
    simp only [Option.some.injEq, Prod.mk.injEq] at H
    obtain ⟨rfl, rfl⟩ := H
    go_enter Try.func33, Try.ntmps33
    go_wp2
    go_ret2
    exact ⟨by first | rfl | (simp; done) | (simp [*]; done), by repeat (first | exact Drawn0.refl _ | apply Drawn0.step)⟩

/-! ### timesyncref03_Of: function 24 -/
def timesyncref03_Of.f (a0 : Int) : Option (Int) := (timesyncref03_split.f a0).bind fun bt159 => (some (IntKind.u64.wrap ((IntKind.u64.wrap ((IntKind.u64.wrap (bt159.1)) * 4294967296)) + (IntKind.u64.wrap (wrap64 (Int.tdiv (wrap64 (bt159.2 * 4294967296)) 1000000000))))))
set_option maxHeartbeats 8000000 in
set_option maxRecDepth 100000 in
theorem timesyncref03_Of.calls (a0 : Int) (r : Int) (w : World) (h : timesyncref03_Of.f a0 = some r) :
    Calls Try.prog 24 #[.int .i64 a0] w fun e w' => e = .returned (.int .u64 r) ∧ Drawn0 w w' := by
  have H : ((timesyncref03_split.f a0).bind fun bt159 => (some (IntKind.u64.wrap ((IntKind.u64.wrap ((IntKind.u64.wrap (bt159.1)) * 4294967296)) + (IntKind.u64.wrap (wrap64 (Int.tdiv (wrap64 (bt159.2 * 4294967296)) 1000000000))))))) = some r := h
  clear h
  replace H := Option.bind_eq_some_iff.mp H
  obtain ⟨⟨t159, t160⟩, A20, H⟩ := H
  replace H : (some (IntKind.u64.wrap ((IntKind.u64.wrap ((IntKind.u64.wrap (t159)) * 4294967296)) + (IntKind.u64.wrap (wrap64 (Int.tdiv (wrap64 (t160 * 4294967296)) 1000000000)))))) = some r := H
  have A2 := Aside0.mk A20
  clear A20
  obtain rfl := Option.some.inj H
  go_enter Try.func24, Try.ntmps24
  go_wp2_with (first | ((with_reducible refine gate_callee (f := 33) rfl ?_); refine goesL_ (some 7) rfl rfl Try.func33 (by kernel_rfl) rfl #[.int .i64 a0] rfl (by (try simp only [List.map_toArray, List.map_cons, List.map_nil]); first | done | rfl | (simp only [List.length_drop, List.length_take]; rfl)) ?_; (with_reducible refine (timesyncref03_split.calls a0 t159 t160 _ A2.out).mono ?_); rintro e w' ⟨rfl, ⟨nd, rfl⟩⟩; refine ⟨_, rfl, ?_⟩))
  go_ret
  exact ⟨by first | rfl | (simp; done) | (simp [*]; done), by repeat (first | exact Drawn0.refl _ | apply Drawn0.step)⟩

-- NOT PRINTED: function 11 (timesynclaw31_awake)

/-! ### timesyncref31_in: function 26 -/
def timesyncref31_in.f (a0 : Int) : Option (Bool) := if a0 ≥ (-4503599627370496) then (some (decide (a0 ≤ 4503599627370496))) else (some false)
set_option maxHeartbeats 8000000 in
set_option maxRecDepth 100000 in
theorem timesyncref31_in.calls (a0 : Int) (r : Bool) (w : World) (h : timesyncref31_in.f a0 = some r) :
    Calls Try.prog 26 #[.int .i64 a0] w fun e w' => e = .returned (.bool r) ∧ Drawn0 w w' := by
  have H : (if a0 ≥ (-4503599627370496) then (some (decide (a0 ≤ 4503599627370496))) else (some false)) = some r := h
  clear h
  by_cases c2 : a0 ≥ (-4503599627370496)
  · rw [if_pos c2] at H
    have c2b0 : decide ((-4503599627370496) ≤ a0) = true := decide_eq_true c2
    clear c2
    obtain rfl := Option.some.inj H
    go_enter Try.func26, Try.ntmps26
    go_wp2
    go_ret
    exact ⟨by first | rfl | (simp; done) | (simp [*]; done), by repeat (first | exact Drawn0.refl _ | apply Drawn0.step)⟩
  · rw [if_neg c2] at H
    have c2b0 : decide ((-4503599627370496) ≤ a0) = false := decide_eq_false c2
    clear c2
    obtain rfl := Option.some.inj H
    go_enter Try.func26, Try.ntmps26
    go_wp2
    go_ret
    exact ⟨by first | rfl | (simp; done) | (simp [*]; done), by repeat (first | exact Drawn0.refl _ | apply Drawn0.step)⟩

-- NOT PRINTED: function 13 (timesyncref31_Assoc_Send)

/-! ### timesyncref19_Check: function 28 -/
def timesyncref19_Check.f (a0_0 : Int) (a0_1 : Int) (a0_2 : Int) (a0_3 : Int) (a0_4 : Int) (a0_5 : Int) (a0_6 : Int) (a0_7 : Int) (a0_8 : Int) (a0_9 : Int) (a0_10 : Int) (a0_11 : Int) (a0_12 : Int) : Option (Int) := if a0_0 < 0 then (some 3) else (if a0_0 > 3 then (some 3) else (if a0_1 < 1 then (some 3) else (if a0_1 > 4 then (some 3) else (if a0_2 < 0 then (some 3) else (if a0_2 > 7 then (some 3) else (if a0_3 < 0 then (some 3) else (if a0_3 > 255 then (some 3) else (if a0_4 < (-128) then (some 3) else (if a0_4 > 127 then (some 3) else (if a0_5 < (-128) then (some 3) else (if a0_5 > 127 then (some 3) else (some 0))))))))))))
set_option maxHeartbeats 8000000 in
set_option maxRecDepth 100000 in
theorem timesyncref19_Check.calls (a0_0 : Int) (a0_1 : Int) (a0_2 : Int) (a0_3 : Int) (a0_4 : Int) (a0_5 : Int) (a0_6 : Int) (a0_7 : Int) (a0_8 : Int) (a0_9 : Int) (a0_10 : Int) (a0_11 : Int) (a0_12 : Int) (r : Int) (w : World) (h : timesyncref19_Check.f a0_0 a0_1 a0_2 a0_3 a0_4 a0_5 a0_6 a0_7 a0_8 a0_9 a0_10 a0_11 a0_12 = some r) :
    Calls Try.prog 28 #[.agg #[.int .i64 a0_0, .int .i64 a0_1, .int .i64 a0_2, .int .i64 a0_3, .int .i64 a0_4, .int .i64 a0_5, .int .u32 a0_6, .int .u32 a0_7, .int .u32 a0_8, .int .u64 a0_9, .int .u64 a0_10, .int .u64 a0_11, .int .u64 a0_12]] w fun e w' => e = .returned (.int .i64 r) ∧ Below w.heap.size w w' := by
  have hu31 := Try.underlying31
  have HB := Aside0.mk (Below.refl w.heap.size w)
  have H : (if a0_0 < 0 then (some 3) else (if a0_0 > 3 then (some 3) else (if a0_1 < 1 then (some 3) else (if a0_1 > 4 then (some 3) else (if a0_2 < 0 then (some 3) else (if a0_2 > 7 then (some 3) else (if a0_3 < 0 then (some 3) else (if a0_3 > 255 then (some 3) else (if a0_4 < (-128) then (some 3) else (if a0_4 > 127 then (some 3) else (if a0_5 < (-128) then (some 3) else (if a0_5 > 127 then (some 3) else (some 0))))))))))))) = some r := h
  clear h
  by_cases c2 : a0_0 < 0
  · rw [if_pos c2] at H
    have c2b0 : decide (a0_0 < 0) = true := decide_eq_true c2
    clear c2
    obtain rfl := Option.some.inj H
    go_enter Try.func28, Try.ntmps28
    go_wp2_with (first | ((with_reducible refine gate_dst (N := 1) rfl ?_); refine box_event ?hg (N := 1) ?hd (cs := #[.int .i64 a0_0, .int .i64 a0_1, .int .i64 a0_2, .int .i64 a0_3, .int .i64 a0_4, .int .i64 a0_5, .int .u32 a0_6, .int .u32 a0_7, .int .u32 a0_8, .int .u64 a0_9, .int .u64 a0_10, .int .u64 a0_11, .int .u64 a0_12]) (t := 31) ?hr ?_; (case hd => rfl); (case hg => rfl); (case hr => first | (go_simp; done) | (go_simp; rfl)); intro gb161 hg w3 hbox hb; have n0_ := Aside0.mk (below_step (by repeat (first | (with_reducible first | exact HB.out | apply below_alloc | apply pw_below_drewN | apply below_drew1) | exact HB.out)) hb); have n1_ := Aside0.mk (hbox); have n2_ := Aside0.mk ((by rw [hg]; exact (below_size (by repeat (first | (with_reducible first | exact HB.out | apply below_alloc | apply pw_below_drewN | apply below_drew1) | exact HB.out))) : w.heap.size ≤ gb161)); have n3_ := Aside0.mk ((by rw [hg]; exact (below_size (by repeat (first | (with_reducible first | exact HB.out | apply below_alloc | apply pw_below_drewN | apply below_drew1) | exact HB.out))) : w.heap.size ≤ gb161)); clear HB; have HB := n0_; have BK161 := n1_; have GW161 := n2_; have GE161 := n3_; clear n0_ n1_ n2_ n3_; clear hb hbox hg; have hcz4_0 : w3.cell? ⟨gb161, 0, none⟩ = some (.int .i64 a0_0) := (blk_cell BK161.out 0).trans rfl; have hcz4_1 : w3.cell? ⟨gb161, 1, none⟩ = some (.int .i64 a0_1) := (blk_cell BK161.out 1).trans rfl; have hcz4_2 : w3.cell? ⟨gb161, 2, none⟩ = some (.int .i64 a0_2) := (blk_cell BK161.out 2).trans rfl; have hcz4_3 : w3.cell? ⟨gb161, 3, none⟩ = some (.int .i64 a0_3) := (blk_cell BK161.out 3).trans rfl; have hcz4_4 : w3.cell? ⟨gb161, 4, none⟩ = some (.int .i64 a0_4) := (blk_cell BK161.out 4).trans rfl; have hcz4_5 : w3.cell? ⟨gb161, 5, none⟩ = some (.int .i64 a0_5) := (blk_cell BK161.out 5).trans rfl; have hcz4_6 : w3.cell? ⟨gb161, 6, none⟩ = some (.int .u32 a0_6) := (blk_cell BK161.out 6).trans rfl; have hcz4_7 : w3.cell? ⟨gb161, 7, none⟩ = some (.int .u32 a0_7) := (blk_cell BK161.out 7).trans rfl; have hcz4_8 : w3.cell? ⟨gb161, 8, none⟩ = some (.int .u32 a0_8) := (blk_cell BK161.out 8).trans rfl; have hcz4_9 : w3.cell? ⟨gb161, 9, none⟩ = some (.int .u64 a0_9) := (blk_cell BK161.out 9).trans rfl; have hcz4_10 : w3.cell? ⟨gb161, 10, none⟩ = some (.int .u64 a0_10) := (blk_cell BK161.out 10).trans rfl; have hcz4_11 : w3.cell? ⟨gb161, 11, none⟩ = some (.int .u64 a0_11) := (blk_cell BK161.out 11).trans rfl; have hcz4_12 : w3.cell? ⟨gb161, 12, none⟩ = some (.int .u64 a0_12) := (blk_cell BK161.out 12).trans rfl; have hfz4_0 := blk_frozen BK161.out 0; have hfz4_1 := blk_frozen BK161.out 1; have hfz4_2 := blk_frozen BK161.out 2; have hfz4_3 := blk_frozen BK161.out 3; have hfz4_4 := blk_frozen BK161.out 4; have hfz4_5 := blk_frozen BK161.out 5; have hfz4_6 := blk_frozen BK161.out 6; have hfz4_7 := blk_frozen BK161.out 7; have hfz4_8 := blk_frozen BK161.out 8; have hfz4_9 := blk_frozen BK161.out 9; have hfz4_10 := blk_frozen BK161.out 10; have hfz4_11 := blk_frozen BK161.out 11; have hfz4_12 := blk_frozen BK161.out 12))
    go_ret
    exact ⟨by first | rfl | (simp [errW_none, errW_some] <;> rfl) | (simp [*, errW_none, errW_some] <;> rfl), by repeat (first | (with_reducible first | exact HB.out | apply below_alloc | apply pw_below_drewN | apply below_drew1 | refine below_set ?_ GE161.out) | exact HB.out)⟩
  · rw [if_neg c2] at H
    have c2b0 : decide (a0_0 < 0) = false := decide_eq_false c2
    clear c2
    by_cases c5 : a0_0 > 3
    · rw [if_pos c5] at H
      have c5b0 : decide (3 < a0_0) = true := decide_eq_true c5
      clear c5
      obtain rfl := Option.some.inj H
      go_enter Try.func28, Try.ntmps28
      go_wp2_with (first | ((with_reducible refine gate_dst (N := 1) rfl ?_); refine box_event ?hg (N := 1) ?hd (cs := #[.int .i64 a0_0, .int .i64 a0_1, .int .i64 a0_2, .int .i64 a0_3, .int .i64 a0_4, .int .i64 a0_5, .int .u32 a0_6, .int .u32 a0_7, .int .u32 a0_8, .int .u64 a0_9, .int .u64 a0_10, .int .u64 a0_11, .int .u64 a0_12]) (t := 31) ?hr ?_; (case hd => rfl); (case hg => rfl); (case hr => first | (go_simp; done) | (go_simp; rfl)); intro gb161 hg w6 hbox hb; have n0_ := Aside0.mk (below_step (by repeat (first | (with_reducible first | exact HB.out | apply below_alloc | apply pw_below_drewN | apply below_drew1) | exact HB.out)) hb); have n1_ := Aside0.mk (hbox); have n2_ := Aside0.mk ((by rw [hg]; exact (below_size (by repeat (first | (with_reducible first | exact HB.out | apply below_alloc | apply pw_below_drewN | apply below_drew1) | exact HB.out))) : w.heap.size ≤ gb161)); have n3_ := Aside0.mk ((by rw [hg]; exact (below_size (by repeat (first | (with_reducible first | exact HB.out | apply below_alloc | apply pw_below_drewN | apply below_drew1) | exact HB.out))) : w.heap.size ≤ gb161)); clear HB; have HB := n0_; have BK161 := n1_; have GW161 := n2_; have GE161 := n3_; clear n0_ n1_ n2_ n3_; clear hb hbox hg; have hcz7_0 : w6.cell? ⟨gb161, 0, none⟩ = some (.int .i64 a0_0) := (blk_cell BK161.out 0).trans rfl; have hcz7_1 : w6.cell? ⟨gb161, 1, none⟩ = some (.int .i64 a0_1) := (blk_cell BK161.out 1).trans rfl; have hcz7_2 : w6.cell? ⟨gb161, 2, none⟩ = some (.int .i64 a0_2) := (blk_cell BK161.out 2).trans rfl; have hcz7_3 : w6.cell? ⟨gb161, 3, none⟩ = some (.int .i64 a0_3) := (blk_cell BK161.out 3).trans rfl; have hcz7_4 : w6.cell? ⟨gb161, 4, none⟩ = some (.int .i64 a0_4) := (blk_cell BK161.out 4).trans rfl; have hcz7_5 : w6.cell? ⟨gb161, 5, none⟩ = some (.int .i64 a0_5) := (blk_cell BK161.out 5).trans rfl; have hcz7_6 : w6.cell? ⟨gb161, 6, none⟩ = some (.int .u32 a0_6) := (blk_cell BK161.out 6).trans rfl; have hcz7_7 : w6.cell? ⟨gb161, 7, none⟩ = some (.int .u32 a0_7) := (blk_cell BK161.out 7).trans rfl; have hcz7_8 : w6.cell? ⟨gb161, 8, none⟩ = some (.int .u32 a0_8) := (blk_cell BK161.out 8).trans rfl; have hcz7_9 : w6.cell? ⟨gb161, 9, none⟩ = some (.int .u64 a0_9) := (blk_cell BK161.out 9).trans rfl; have hcz7_10 : w6.cell? ⟨gb161, 10, none⟩ = some (.int .u64 a0_10) := (blk_cell BK161.out 10).trans rfl; have hcz7_11 : w6.cell? ⟨gb161, 11, none⟩ = some (.int .u64 a0_11) := (blk_cell BK161.out 11).trans rfl; have hcz7_12 : w6.cell? ⟨gb161, 12, none⟩ = some (.int .u64 a0_12) := (blk_cell BK161.out 12).trans rfl; have hfz7_0 := blk_frozen BK161.out 0; have hfz7_1 := blk_frozen BK161.out 1; have hfz7_2 := blk_frozen BK161.out 2; have hfz7_3 := blk_frozen BK161.out 3; have hfz7_4 := blk_frozen BK161.out 4; have hfz7_5 := blk_frozen BK161.out 5; have hfz7_6 := blk_frozen BK161.out 6; have hfz7_7 := blk_frozen BK161.out 7; have hfz7_8 := blk_frozen BK161.out 8; have hfz7_9 := blk_frozen BK161.out 9; have hfz7_10 := blk_frozen BK161.out 10; have hfz7_11 := blk_frozen BK161.out 11; have hfz7_12 := blk_frozen BK161.out 12))
      go_ret
      exact ⟨by first | rfl | (simp [errW_none, errW_some] <;> rfl) | (simp [*, errW_none, errW_some] <;> rfl), by repeat (first | (with_reducible first | exact HB.out | apply below_alloc | apply pw_below_drewN | apply below_drew1 | refine below_set ?_ GE161.out) | exact HB.out)⟩
    · rw [if_neg c5] at H
      have c5b0 : decide (3 < a0_0) = false := decide_eq_false c5
      clear c5
      by_cases c8 : a0_1 < 1
      · rw [if_pos c8] at H
        have c8b0 : decide (a0_1 < 1) = true := decide_eq_true c8
        clear c8
        obtain rfl := Option.some.inj H
        go_enter Try.func28, Try.ntmps28
        go_wp2_with (first | ((with_reducible refine gate_dst (N := 1) rfl ?_); refine box_event ?hg (N := 1) ?hd (cs := #[.int .i64 a0_0, .int .i64 a0_1, .int .i64 a0_2, .int .i64 a0_3, .int .i64 a0_4, .int .i64 a0_5, .int .u32 a0_6, .int .u32 a0_7, .int .u32 a0_8, .int .u64 a0_9, .int .u64 a0_10, .int .u64 a0_11, .int .u64 a0_12]) (t := 31) ?hr ?_; (case hd => rfl); (case hg => rfl); (case hr => first | (go_simp; done) | (go_simp; rfl)); intro gb161 hg w9 hbox hb; have n0_ := Aside0.mk (below_step (by repeat (first | (with_reducible first | exact HB.out | apply below_alloc | apply pw_below_drewN | apply below_drew1) | exact HB.out)) hb); have n1_ := Aside0.mk (hbox); have n2_ := Aside0.mk ((by rw [hg]; exact (below_size (by repeat (first | (with_reducible first | exact HB.out | apply below_alloc | apply pw_below_drewN | apply below_drew1) | exact HB.out))) : w.heap.size ≤ gb161)); have n3_ := Aside0.mk ((by rw [hg]; exact (below_size (by repeat (first | (with_reducible first | exact HB.out | apply below_alloc | apply pw_below_drewN | apply below_drew1) | exact HB.out))) : w.heap.size ≤ gb161)); clear HB; have HB := n0_; have BK161 := n1_; have GW161 := n2_; have GE161 := n3_; clear n0_ n1_ n2_ n3_; clear hb hbox hg; have hcz10_0 : w9.cell? ⟨gb161, 0, none⟩ = some (.int .i64 a0_0) := (blk_cell BK161.out 0).trans rfl; have hcz10_1 : w9.cell? ⟨gb161, 1, none⟩ = some (.int .i64 a0_1) := (blk_cell BK161.out 1).trans rfl; have hcz10_2 : w9.cell? ⟨gb161, 2, none⟩ = some (.int .i64 a0_2) := (blk_cell BK161.out 2).trans rfl; have hcz10_3 : w9.cell? ⟨gb161, 3, none⟩ = some (.int .i64 a0_3) := (blk_cell BK161.out 3).trans rfl; have hcz10_4 : w9.cell? ⟨gb161, 4, none⟩ = some (.int .i64 a0_4) := (blk_cell BK161.out 4).trans rfl; have hcz10_5 : w9.cell? ⟨gb161, 5, none⟩ = some (.int .i64 a0_5) := (blk_cell BK161.out 5).trans rfl; have hcz10_6 : w9.cell? ⟨gb161, 6, none⟩ = some (.int .u32 a0_6) := (blk_cell BK161.out 6).trans rfl; have hcz10_7 : w9.cell? ⟨gb161, 7, none⟩ = some (.int .u32 a0_7) := (blk_cell BK161.out 7).trans rfl; have hcz10_8 : w9.cell? ⟨gb161, 8, none⟩ = some (.int .u32 a0_8) := (blk_cell BK161.out 8).trans rfl; have hcz10_9 : w9.cell? ⟨gb161, 9, none⟩ = some (.int .u64 a0_9) := (blk_cell BK161.out 9).trans rfl; have hcz10_10 : w9.cell? ⟨gb161, 10, none⟩ = some (.int .u64 a0_10) := (blk_cell BK161.out 10).trans rfl; have hcz10_11 : w9.cell? ⟨gb161, 11, none⟩ = some (.int .u64 a0_11) := (blk_cell BK161.out 11).trans rfl; have hcz10_12 : w9.cell? ⟨gb161, 12, none⟩ = some (.int .u64 a0_12) := (blk_cell BK161.out 12).trans rfl; have hfz10_0 := blk_frozen BK161.out 0; have hfz10_1 := blk_frozen BK161.out 1; have hfz10_2 := blk_frozen BK161.out 2; have hfz10_3 := blk_frozen BK161.out 3; have hfz10_4 := blk_frozen BK161.out 4; have hfz10_5 := blk_frozen BK161.out 5; have hfz10_6 := blk_frozen BK161.out 6; have hfz10_7 := blk_frozen BK161.out 7; have hfz10_8 := blk_frozen BK161.out 8; have hfz10_9 := blk_frozen BK161.out 9; have hfz10_10 := blk_frozen BK161.out 10; have hfz10_11 := blk_frozen BK161.out 11; have hfz10_12 := blk_frozen BK161.out 12))
        go_ret
        exact ⟨by first | rfl | (simp [errW_none, errW_some] <;> rfl) | (simp [*, errW_none, errW_some] <;> rfl), by repeat (first | (with_reducible first | exact HB.out | apply below_alloc | apply pw_below_drewN | apply below_drew1 | refine below_set ?_ GE161.out) | exact HB.out)⟩
      · rw [if_neg c8] at H
        have c8b0 : decide (a0_1 < 1) = false := decide_eq_false c8
        clear c8
        by_cases c11 : a0_1 > 4
        · rw [if_pos c11] at H
          have c11b0 : decide (4 < a0_1) = true := decide_eq_true c11
          clear c11
          obtain rfl := Option.some.inj H
          go_enter Try.func28, Try.ntmps28
          go_wp2_with (first | ((with_reducible refine gate_dst (N := 1) rfl ?_); refine box_event ?hg (N := 1) ?hd (cs := #[.int .i64 a0_0, .int .i64 a0_1, .int .i64 a0_2, .int .i64 a0_3, .int .i64 a0_4, .int .i64 a0_5, .int .u32 a0_6, .int .u32 a0_7, .int .u32 a0_8, .int .u64 a0_9, .int .u64 a0_10, .int .u64 a0_11, .int .u64 a0_12]) (t := 31) ?hr ?_; (case hd => rfl); (case hg => rfl); (case hr => first | (go_simp; done) | (go_simp; rfl)); intro gb161 hg w12 hbox hb; have n0_ := Aside0.mk (below_step (by repeat (first | (with_reducible first | exact HB.out | apply below_alloc | apply pw_below_drewN | apply below_drew1) | exact HB.out)) hb); have n1_ := Aside0.mk (hbox); have n2_ := Aside0.mk ((by rw [hg]; exact (below_size (by repeat (first | (with_reducible first | exact HB.out | apply below_alloc | apply pw_below_drewN | apply below_drew1) | exact HB.out))) : w.heap.size ≤ gb161)); have n3_ := Aside0.mk ((by rw [hg]; exact (below_size (by repeat (first | (with_reducible first | exact HB.out | apply below_alloc | apply pw_below_drewN | apply below_drew1) | exact HB.out))) : w.heap.size ≤ gb161)); clear HB; have HB := n0_; have BK161 := n1_; have GW161 := n2_; have GE161 := n3_; clear n0_ n1_ n2_ n3_; clear hb hbox hg; have hcz13_0 : w12.cell? ⟨gb161, 0, none⟩ = some (.int .i64 a0_0) := (blk_cell BK161.out 0).trans rfl; have hcz13_1 : w12.cell? ⟨gb161, 1, none⟩ = some (.int .i64 a0_1) := (blk_cell BK161.out 1).trans rfl; have hcz13_2 : w12.cell? ⟨gb161, 2, none⟩ = some (.int .i64 a0_2) := (blk_cell BK161.out 2).trans rfl; have hcz13_3 : w12.cell? ⟨gb161, 3, none⟩ = some (.int .i64 a0_3) := (blk_cell BK161.out 3).trans rfl; have hcz13_4 : w12.cell? ⟨gb161, 4, none⟩ = some (.int .i64 a0_4) := (blk_cell BK161.out 4).trans rfl; have hcz13_5 : w12.cell? ⟨gb161, 5, none⟩ = some (.int .i64 a0_5) := (blk_cell BK161.out 5).trans rfl; have hcz13_6 : w12.cell? ⟨gb161, 6, none⟩ = some (.int .u32 a0_6) := (blk_cell BK161.out 6).trans rfl; have hcz13_7 : w12.cell? ⟨gb161, 7, none⟩ = some (.int .u32 a0_7) := (blk_cell BK161.out 7).trans rfl; have hcz13_8 : w12.cell? ⟨gb161, 8, none⟩ = some (.int .u32 a0_8) := (blk_cell BK161.out 8).trans rfl; have hcz13_9 : w12.cell? ⟨gb161, 9, none⟩ = some (.int .u64 a0_9) := (blk_cell BK161.out 9).trans rfl; have hcz13_10 : w12.cell? ⟨gb161, 10, none⟩ = some (.int .u64 a0_10) := (blk_cell BK161.out 10).trans rfl; have hcz13_11 : w12.cell? ⟨gb161, 11, none⟩ = some (.int .u64 a0_11) := (blk_cell BK161.out 11).trans rfl; have hcz13_12 : w12.cell? ⟨gb161, 12, none⟩ = some (.int .u64 a0_12) := (blk_cell BK161.out 12).trans rfl; have hfz13_0 := blk_frozen BK161.out 0; have hfz13_1 := blk_frozen BK161.out 1; have hfz13_2 := blk_frozen BK161.out 2; have hfz13_3 := blk_frozen BK161.out 3; have hfz13_4 := blk_frozen BK161.out 4; have hfz13_5 := blk_frozen BK161.out 5; have hfz13_6 := blk_frozen BK161.out 6; have hfz13_7 := blk_frozen BK161.out 7; have hfz13_8 := blk_frozen BK161.out 8; have hfz13_9 := blk_frozen BK161.out 9; have hfz13_10 := blk_frozen BK161.out 10; have hfz13_11 := blk_frozen BK161.out 11; have hfz13_12 := blk_frozen BK161.out 12))
          go_ret
          exact ⟨by first | rfl | (simp [errW_none, errW_some] <;> rfl) | (simp [*, errW_none, errW_some] <;> rfl), by repeat (first | (with_reducible first | exact HB.out | apply below_alloc | apply pw_below_drewN | apply below_drew1 | refine below_set ?_ GE161.out) | exact HB.out)⟩
        · rw [if_neg c11] at H
          have c11b0 : decide (4 < a0_1) = false := decide_eq_false c11
          clear c11
          by_cases c14 : a0_2 < 0
          · rw [if_pos c14] at H
            have c14b0 : decide (a0_2 < 0) = true := decide_eq_true c14
            clear c14
            obtain rfl := Option.some.inj H
            go_enter Try.func28, Try.ntmps28
            go_wp2_with (first | ((with_reducible refine gate_dst (N := 1) rfl ?_); refine box_event ?hg (N := 1) ?hd (cs := #[.int .i64 a0_0, .int .i64 a0_1, .int .i64 a0_2, .int .i64 a0_3, .int .i64 a0_4, .int .i64 a0_5, .int .u32 a0_6, .int .u32 a0_7, .int .u32 a0_8, .int .u64 a0_9, .int .u64 a0_10, .int .u64 a0_11, .int .u64 a0_12]) (t := 31) ?hr ?_; (case hd => rfl); (case hg => rfl); (case hr => first | (go_simp; done) | (go_simp; rfl)); intro gb161 hg w15 hbox hb; have n0_ := Aside0.mk (below_step (by repeat (first | (with_reducible first | exact HB.out | apply below_alloc | apply pw_below_drewN | apply below_drew1) | exact HB.out)) hb); have n1_ := Aside0.mk (hbox); have n2_ := Aside0.mk ((by rw [hg]; exact (below_size (by repeat (first | (with_reducible first | exact HB.out | apply below_alloc | apply pw_below_drewN | apply below_drew1) | exact HB.out))) : w.heap.size ≤ gb161)); have n3_ := Aside0.mk ((by rw [hg]; exact (below_size (by repeat (first | (with_reducible first | exact HB.out | apply below_alloc | apply pw_below_drewN | apply below_drew1) | exact HB.out))) : w.heap.size ≤ gb161)); clear HB; have HB := n0_; have BK161 := n1_; have GW161 := n2_; have GE161 := n3_; clear n0_ n1_ n2_ n3_; clear hb hbox hg; have hcz16_0 : w15.cell? ⟨gb161, 0, none⟩ = some (.int .i64 a0_0) := (blk_cell BK161.out 0).trans rfl; have hcz16_1 : w15.cell? ⟨gb161, 1, none⟩ = some (.int .i64 a0_1) := (blk_cell BK161.out 1).trans rfl; have hcz16_2 : w15.cell? ⟨gb161, 2, none⟩ = some (.int .i64 a0_2) := (blk_cell BK161.out 2).trans rfl; have hcz16_3 : w15.cell? ⟨gb161, 3, none⟩ = some (.int .i64 a0_3) := (blk_cell BK161.out 3).trans rfl; have hcz16_4 : w15.cell? ⟨gb161, 4, none⟩ = some (.int .i64 a0_4) := (blk_cell BK161.out 4).trans rfl; have hcz16_5 : w15.cell? ⟨gb161, 5, none⟩ = some (.int .i64 a0_5) := (blk_cell BK161.out 5).trans rfl; have hcz16_6 : w15.cell? ⟨gb161, 6, none⟩ = some (.int .u32 a0_6) := (blk_cell BK161.out 6).trans rfl; have hcz16_7 : w15.cell? ⟨gb161, 7, none⟩ = some (.int .u32 a0_7) := (blk_cell BK161.out 7).trans rfl; have hcz16_8 : w15.cell? ⟨gb161, 8, none⟩ = some (.int .u32 a0_8) := (blk_cell BK161.out 8).trans rfl; have hcz16_9 : w15.cell? ⟨gb161, 9, none⟩ = some (.int .u64 a0_9) := (blk_cell BK161.out 9).trans rfl; have hcz16_10 : w15.cell? ⟨gb161, 10, none⟩ = some (.int .u64 a0_10) := (blk_cell BK161.out 10).trans rfl; have hcz16_11 : w15.cell? ⟨gb161, 11, none⟩ = some (.int .u64 a0_11) := (blk_cell BK161.out 11).trans rfl; have hcz16_12 : w15.cell? ⟨gb161, 12, none⟩ = some (.int .u64 a0_12) := (blk_cell BK161.out 12).trans rfl; have hfz16_0 := blk_frozen BK161.out 0; have hfz16_1 := blk_frozen BK161.out 1; have hfz16_2 := blk_frozen BK161.out 2; have hfz16_3 := blk_frozen BK161.out 3; have hfz16_4 := blk_frozen BK161.out 4; have hfz16_5 := blk_frozen BK161.out 5; have hfz16_6 := blk_frozen BK161.out 6; have hfz16_7 := blk_frozen BK161.out 7; have hfz16_8 := blk_frozen BK161.out 8; have hfz16_9 := blk_frozen BK161.out 9; have hfz16_10 := blk_frozen BK161.out 10; have hfz16_11 := blk_frozen BK161.out 11; have hfz16_12 := blk_frozen BK161.out 12))
            go_ret
            exact ⟨by first | rfl | (simp [errW_none, errW_some] <;> rfl) | (simp [*, errW_none, errW_some] <;> rfl), by repeat (first | (with_reducible first | exact HB.out | apply below_alloc | apply pw_below_drewN | apply below_drew1 | refine below_set ?_ GE161.out) | exact HB.out)⟩
          · rw [if_neg c14] at H
            have c14b0 : decide (a0_2 < 0) = false := decide_eq_false c14
            clear c14
            by_cases c17 : a0_2 > 7
            · rw [if_pos c17] at H
              have c17b0 : decide (7 < a0_2) = true := decide_eq_true c17
              clear c17
              obtain rfl := Option.some.inj H
              go_enter Try.func28, Try.ntmps28
              go_wp2_with (first | ((with_reducible refine gate_dst (N := 1) rfl ?_); refine box_event ?hg (N := 1) ?hd (cs := #[.int .i64 a0_0, .int .i64 a0_1, .int .i64 a0_2, .int .i64 a0_3, .int .i64 a0_4, .int .i64 a0_5, .int .u32 a0_6, .int .u32 a0_7, .int .u32 a0_8, .int .u64 a0_9, .int .u64 a0_10, .int .u64 a0_11, .int .u64 a0_12]) (t := 31) ?hr ?_; (case hd => rfl); (case hg => rfl); (case hr => first | (go_simp; done) | (go_simp; rfl)); intro gb161 hg w18 hbox hb; have n0_ := Aside0.mk (below_step (by repeat (first | (with_reducible first | exact HB.out | apply below_alloc | apply pw_below_drewN | apply below_drew1) | exact HB.out)) hb); have n1_ := Aside0.mk (hbox); have n2_ := Aside0.mk ((by rw [hg]; exact (below_size (by repeat (first | (with_reducible first | exact HB.out | apply below_alloc | apply pw_below_drewN | apply below_drew1) | exact HB.out))) : w.heap.size ≤ gb161)); have n3_ := Aside0.mk ((by rw [hg]; exact (below_size (by repeat (first | (with_reducible first | exact HB.out | apply below_alloc | apply pw_below_drewN | apply below_drew1) | exact HB.out))) : w.heap.size ≤ gb161)); clear HB; have HB := n0_; have BK161 := n1_; have GW161 := n2_; have GE161 := n3_; clear n0_ n1_ n2_ n3_; clear hb hbox hg; have hcz19_0 : w18.cell? ⟨gb161, 0, none⟩ = some (.int .i64 a0_0) := (blk_cell BK161.out 0).trans rfl; have hcz19_1 : w18.cell? ⟨gb161, 1, none⟩ = some (.int .i64 a0_1) := (blk_cell BK161.out 1).trans rfl; have hcz19_2 : w18.cell? ⟨gb161, 2, none⟩ = some (.int .i64 a0_2) := (blk_cell BK161.out 2).trans rfl; have hcz19_3 : w18.cell? ⟨gb161, 3, none⟩ = some (.int .i64 a0_3) := (blk_cell BK161.out 3).trans rfl; have hcz19_4 : w18.cell? ⟨gb161, 4, none⟩ = some (.int .i64 a0_4) := (blk_cell BK161.out 4).trans rfl; have hcz19_5 : w18.cell? ⟨gb161, 5, none⟩ = some (.int .i64 a0_5) := (blk_cell BK161.out 5).trans rfl; have hcz19_6 : w18.cell? ⟨gb161, 6, none⟩ = some (.int .u32 a0_6) := (blk_cell BK161.out 6).trans rfl; have hcz19_7 : w18.cell? ⟨gb161, 7, none⟩ = some (.int .u32 a0_7) := (blk_cell BK161.out 7).trans rfl; have hcz19_8 : w18.cell? ⟨gb161, 8, none⟩ = some (.int .u32 a0_8) := (blk_cell BK161.out 8).trans rfl; have hcz19_9 : w18.cell? ⟨gb161, 9, none⟩ = some (.int .u64 a0_9) := (blk_cell BK161.out 9).trans rfl; have hcz19_10 : w18.cell? ⟨gb161, 10, none⟩ = some (.int .u64 a0_10) := (blk_cell BK161.out 10).trans rfl; have hcz19_11 : w18.cell? ⟨gb161, 11, none⟩ = some (.int .u64 a0_11) := (blk_cell BK161.out 11).trans rfl; have hcz19_12 : w18.cell? ⟨gb161, 12, none⟩ = some (.int .u64 a0_12) := (blk_cell BK161.out 12).trans rfl; have hfz19_0 := blk_frozen BK161.out 0; have hfz19_1 := blk_frozen BK161.out 1; have hfz19_2 := blk_frozen BK161.out 2; have hfz19_3 := blk_frozen BK161.out 3; have hfz19_4 := blk_frozen BK161.out 4; have hfz19_5 := blk_frozen BK161.out 5; have hfz19_6 := blk_frozen BK161.out 6; have hfz19_7 := blk_frozen BK161.out 7; have hfz19_8 := blk_frozen BK161.out 8; have hfz19_9 := blk_frozen BK161.out 9; have hfz19_10 := blk_frozen BK161.out 10; have hfz19_11 := blk_frozen BK161.out 11; have hfz19_12 := blk_frozen BK161.out 12))
              go_ret
              exact ⟨by first | rfl | (simp [errW_none, errW_some] <;> rfl) | (simp [*, errW_none, errW_some] <;> rfl), by repeat (first | (with_reducible first | exact HB.out | apply below_alloc | apply pw_below_drewN | apply below_drew1 | refine below_set ?_ GE161.out) | exact HB.out)⟩
            · rw [if_neg c17] at H
              have c17b0 : decide (7 < a0_2) = false := decide_eq_false c17
              clear c17
              by_cases c20 : a0_3 < 0
              · rw [if_pos c20] at H
                have c20b0 : decide (a0_3 < 0) = true := decide_eq_true c20
                clear c20
                obtain rfl := Option.some.inj H
                go_enter Try.func28, Try.ntmps28
                go_wp2_with (first | ((with_reducible refine gate_dst (N := 1) rfl ?_); refine box_event ?hg (N := 1) ?hd (cs := #[.int .i64 a0_0, .int .i64 a0_1, .int .i64 a0_2, .int .i64 a0_3, .int .i64 a0_4, .int .i64 a0_5, .int .u32 a0_6, .int .u32 a0_7, .int .u32 a0_8, .int .u64 a0_9, .int .u64 a0_10, .int .u64 a0_11, .int .u64 a0_12]) (t := 31) ?hr ?_; (case hd => rfl); (case hg => rfl); (case hr => first | (go_simp; done) | (go_simp; rfl)); intro gb161 hg w21 hbox hb; have n0_ := Aside0.mk (below_step (by repeat (first | (with_reducible first | exact HB.out | apply below_alloc | apply pw_below_drewN | apply below_drew1) | exact HB.out)) hb); have n1_ := Aside0.mk (hbox); have n2_ := Aside0.mk ((by rw [hg]; exact (below_size (by repeat (first | (with_reducible first | exact HB.out | apply below_alloc | apply pw_below_drewN | apply below_drew1) | exact HB.out))) : w.heap.size ≤ gb161)); have n3_ := Aside0.mk ((by rw [hg]; exact (below_size (by repeat (first | (with_reducible first | exact HB.out | apply below_alloc | apply pw_below_drewN | apply below_drew1) | exact HB.out))) : w.heap.size ≤ gb161)); clear HB; have HB := n0_; have BK161 := n1_; have GW161 := n2_; have GE161 := n3_; clear n0_ n1_ n2_ n3_; clear hb hbox hg; have hcz22_0 : w21.cell? ⟨gb161, 0, none⟩ = some (.int .i64 a0_0) := (blk_cell BK161.out 0).trans rfl; have hcz22_1 : w21.cell? ⟨gb161, 1, none⟩ = some (.int .i64 a0_1) := (blk_cell BK161.out 1).trans rfl; have hcz22_2 : w21.cell? ⟨gb161, 2, none⟩ = some (.int .i64 a0_2) := (blk_cell BK161.out 2).trans rfl; have hcz22_3 : w21.cell? ⟨gb161, 3, none⟩ = some (.int .i64 a0_3) := (blk_cell BK161.out 3).trans rfl; have hcz22_4 : w21.cell? ⟨gb161, 4, none⟩ = some (.int .i64 a0_4) := (blk_cell BK161.out 4).trans rfl; have hcz22_5 : w21.cell? ⟨gb161, 5, none⟩ = some (.int .i64 a0_5) := (blk_cell BK161.out 5).trans rfl; have hcz22_6 : w21.cell? ⟨gb161, 6, none⟩ = some (.int .u32 a0_6) := (blk_cell BK161.out 6).trans rfl; have hcz22_7 : w21.cell? ⟨gb161, 7, none⟩ = some (.int .u32 a0_7) := (blk_cell BK161.out 7).trans rfl; have hcz22_8 : w21.cell? ⟨gb161, 8, none⟩ = some (.int .u32 a0_8) := (blk_cell BK161.out 8).trans rfl; have hcz22_9 : w21.cell? ⟨gb161, 9, none⟩ = some (.int .u64 a0_9) := (blk_cell BK161.out 9).trans rfl; have hcz22_10 : w21.cell? ⟨gb161, 10, none⟩ = some (.int .u64 a0_10) := (blk_cell BK161.out 10).trans rfl; have hcz22_11 : w21.cell? ⟨gb161, 11, none⟩ = some (.int .u64 a0_11) := (blk_cell BK161.out 11).trans rfl; have hcz22_12 : w21.cell? ⟨gb161, 12, none⟩ = some (.int .u64 a0_12) := (blk_cell BK161.out 12).trans rfl; have hfz22_0 := blk_frozen BK161.out 0; have hfz22_1 := blk_frozen BK161.out 1; have hfz22_2 := blk_frozen BK161.out 2; have hfz22_3 := blk_frozen BK161.out 3; have hfz22_4 := blk_frozen BK161.out 4; have hfz22_5 := blk_frozen BK161.out 5; have hfz22_6 := blk_frozen BK161.out 6; have hfz22_7 := blk_frozen BK161.out 7; have hfz22_8 := blk_frozen BK161.out 8; have hfz22_9 := blk_frozen BK161.out 9; have hfz22_10 := blk_frozen BK161.out 10; have hfz22_11 := blk_frozen BK161.out 11; have hfz22_12 := blk_frozen BK161.out 12))
                go_ret
                exact ⟨by first | rfl | (simp [errW_none, errW_some] <;> rfl) | (simp [*, errW_none, errW_some] <;> rfl), by repeat (first | (with_reducible first | exact HB.out | apply below_alloc | apply pw_below_drewN | apply below_drew1 | refine below_set ?_ GE161.out) | exact HB.out)⟩
              · rw [if_neg c20] at H
                have c20b0 : decide (a0_3 < 0) = false := decide_eq_false c20
                clear c20
                by_cases c23 : a0_3 > 255
                · rw [if_pos c23] at H
                  have c23b0 : decide (255 < a0_3) = true := decide_eq_true c23
                  clear c23
                  obtain rfl := Option.some.inj H
                  go_enter Try.func28, Try.ntmps28
                  go_wp2_with (first | ((with_reducible refine gate_dst (N := 1) rfl ?_); refine box_event ?hg (N := 1) ?hd (cs := #[.int .i64 a0_0, .int .i64 a0_1, .int .i64 a0_2, .int .i64 a0_3, .int .i64 a0_4, .int .i64 a0_5, .int .u32 a0_6, .int .u32 a0_7, .int .u32 a0_8, .int .u64 a0_9, .int .u64 a0_10, .int .u64 a0_11, .int .u64 a0_12]) (t := 31) ?hr ?_; (case hd => rfl); (case hg => rfl); (case hr => first | (go_simp; done) | (go_simp; rfl)); intro gb161 hg w24 hbox hb; have n0_ := Aside0.mk (below_step (by repeat (first | (with_reducible first | exact HB.out | apply below_alloc | apply pw_below_drewN | apply below_drew1) | exact HB.out)) hb); have n1_ := Aside0.mk (hbox); have n2_ := Aside0.mk ((by rw [hg]; exact (below_size (by repeat (first | (with_reducible first | exact HB.out | apply below_alloc | apply pw_below_drewN | apply below_drew1) | exact HB.out))) : w.heap.size ≤ gb161)); have n3_ := Aside0.mk ((by rw [hg]; exact (below_size (by repeat (first | (with_reducible first | exact HB.out | apply below_alloc | apply pw_below_drewN | apply below_drew1) | exact HB.out))) : w.heap.size ≤ gb161)); clear HB; have HB := n0_; have BK161 := n1_; have GW161 := n2_; have GE161 := n3_; clear n0_ n1_ n2_ n3_; clear hb hbox hg; have hcz25_0 : w24.cell? ⟨gb161, 0, none⟩ = some (.int .i64 a0_0) := (blk_cell BK161.out 0).trans rfl; have hcz25_1 : w24.cell? ⟨gb161, 1, none⟩ = some (.int .i64 a0_1) := (blk_cell BK161.out 1).trans rfl; have hcz25_2 : w24.cell? ⟨gb161, 2, none⟩ = some (.int .i64 a0_2) := (blk_cell BK161.out 2).trans rfl; have hcz25_3 : w24.cell? ⟨gb161, 3, none⟩ = some (.int .i64 a0_3) := (blk_cell BK161.out 3).trans rfl; have hcz25_4 : w24.cell? ⟨gb161, 4, none⟩ = some (.int .i64 a0_4) := (blk_cell BK161.out 4).trans rfl; have hcz25_5 : w24.cell? ⟨gb161, 5, none⟩ = some (.int .i64 a0_5) := (blk_cell BK161.out 5).trans rfl; have hcz25_6 : w24.cell? ⟨gb161, 6, none⟩ = some (.int .u32 a0_6) := (blk_cell BK161.out 6).trans rfl; have hcz25_7 : w24.cell? ⟨gb161, 7, none⟩ = some (.int .u32 a0_7) := (blk_cell BK161.out 7).trans rfl; have hcz25_8 : w24.cell? ⟨gb161, 8, none⟩ = some (.int .u32 a0_8) := (blk_cell BK161.out 8).trans rfl; have hcz25_9 : w24.cell? ⟨gb161, 9, none⟩ = some (.int .u64 a0_9) := (blk_cell BK161.out 9).trans rfl; have hcz25_10 : w24.cell? ⟨gb161, 10, none⟩ = some (.int .u64 a0_10) := (blk_cell BK161.out 10).trans rfl; have hcz25_11 : w24.cell? ⟨gb161, 11, none⟩ = some (.int .u64 a0_11) := (blk_cell BK161.out 11).trans rfl; have hcz25_12 : w24.cell? ⟨gb161, 12, none⟩ = some (.int .u64 a0_12) := (blk_cell BK161.out 12).trans rfl; have hfz25_0 := blk_frozen BK161.out 0; have hfz25_1 := blk_frozen BK161.out 1; have hfz25_2 := blk_frozen BK161.out 2; have hfz25_3 := blk_frozen BK161.out 3; have hfz25_4 := blk_frozen BK161.out 4; have hfz25_5 := blk_frozen BK161.out 5; have hfz25_6 := blk_frozen BK161.out 6; have hfz25_7 := blk_frozen BK161.out 7; have hfz25_8 := blk_frozen BK161.out 8; have hfz25_9 := blk_frozen BK161.out 9; have hfz25_10 := blk_frozen BK161.out 10; have hfz25_11 := blk_frozen BK161.out 11; have hfz25_12 := blk_frozen BK161.out 12))
                  go_ret
                  exact ⟨by first | rfl | (simp [errW_none, errW_some] <;> rfl) | (simp [*, errW_none, errW_some] <;> rfl), by repeat (first | (with_reducible first | exact HB.out | apply below_alloc | apply pw_below_drewN | apply below_drew1 | refine below_set ?_ GE161.out) | exact HB.out)⟩
                · rw [if_neg c23] at H
                  have c23b0 : decide (255 < a0_3) = false := decide_eq_false c23
                  clear c23
                  by_cases c26 : a0_4 < (-128)
                  · rw [if_pos c26] at H
                    have c26b0 : decide (a0_4 < (-128)) = true := decide_eq_true c26
                    clear c26
                    obtain rfl := Option.some.inj H
                    go_enter Try.func28, Try.ntmps28
                    go_wp2_with (first | ((with_reducible refine gate_dst (N := 1) rfl ?_); refine box_event ?hg (N := 1) ?hd (cs := #[.int .i64 a0_0, .int .i64 a0_1, .int .i64 a0_2, .int .i64 a0_3, .int .i64 a0_4, .int .i64 a0_5, .int .u32 a0_6, .int .u32 a0_7, .int .u32 a0_8, .int .u64 a0_9, .int .u64 a0_10, .int .u64 a0_11, .int .u64 a0_12]) (t := 31) ?hr ?_; (case hd => rfl); (case hg => rfl); (case hr => first | (go_simp; done) | (go_simp; rfl)); intro gb161 hg w27 hbox hb; have n0_ := Aside0.mk (below_step (by repeat (first | (with_reducible first | exact HB.out | apply below_alloc | apply pw_below_drewN | apply below_drew1) | exact HB.out)) hb); have n1_ := Aside0.mk (hbox); have n2_ := Aside0.mk ((by rw [hg]; exact (below_size (by repeat (first | (with_reducible first | exact HB.out | apply below_alloc | apply pw_below_drewN | apply below_drew1) | exact HB.out))) : w.heap.size ≤ gb161)); have n3_ := Aside0.mk ((by rw [hg]; exact (below_size (by repeat (first | (with_reducible first | exact HB.out | apply below_alloc | apply pw_below_drewN | apply below_drew1) | exact HB.out))) : w.heap.size ≤ gb161)); clear HB; have HB := n0_; have BK161 := n1_; have GW161 := n2_; have GE161 := n3_; clear n0_ n1_ n2_ n3_; clear hb hbox hg; have hcz28_0 : w27.cell? ⟨gb161, 0, none⟩ = some (.int .i64 a0_0) := (blk_cell BK161.out 0).trans rfl; have hcz28_1 : w27.cell? ⟨gb161, 1, none⟩ = some (.int .i64 a0_1) := (blk_cell BK161.out 1).trans rfl; have hcz28_2 : w27.cell? ⟨gb161, 2, none⟩ = some (.int .i64 a0_2) := (blk_cell BK161.out 2).trans rfl; have hcz28_3 : w27.cell? ⟨gb161, 3, none⟩ = some (.int .i64 a0_3) := (blk_cell BK161.out 3).trans rfl; have hcz28_4 : w27.cell? ⟨gb161, 4, none⟩ = some (.int .i64 a0_4) := (blk_cell BK161.out 4).trans rfl; have hcz28_5 : w27.cell? ⟨gb161, 5, none⟩ = some (.int .i64 a0_5) := (blk_cell BK161.out 5).trans rfl; have hcz28_6 : w27.cell? ⟨gb161, 6, none⟩ = some (.int .u32 a0_6) := (blk_cell BK161.out 6).trans rfl; have hcz28_7 : w27.cell? ⟨gb161, 7, none⟩ = some (.int .u32 a0_7) := (blk_cell BK161.out 7).trans rfl; have hcz28_8 : w27.cell? ⟨gb161, 8, none⟩ = some (.int .u32 a0_8) := (blk_cell BK161.out 8).trans rfl; have hcz28_9 : w27.cell? ⟨gb161, 9, none⟩ = some (.int .u64 a0_9) := (blk_cell BK161.out 9).trans rfl; have hcz28_10 : w27.cell? ⟨gb161, 10, none⟩ = some (.int .u64 a0_10) := (blk_cell BK161.out 10).trans rfl; have hcz28_11 : w27.cell? ⟨gb161, 11, none⟩ = some (.int .u64 a0_11) := (blk_cell BK161.out 11).trans rfl; have hcz28_12 : w27.cell? ⟨gb161, 12, none⟩ = some (.int .u64 a0_12) := (blk_cell BK161.out 12).trans rfl; have hfz28_0 := blk_frozen BK161.out 0; have hfz28_1 := blk_frozen BK161.out 1; have hfz28_2 := blk_frozen BK161.out 2; have hfz28_3 := blk_frozen BK161.out 3; have hfz28_4 := blk_frozen BK161.out 4; have hfz28_5 := blk_frozen BK161.out 5; have hfz28_6 := blk_frozen BK161.out 6; have hfz28_7 := blk_frozen BK161.out 7; have hfz28_8 := blk_frozen BK161.out 8; have hfz28_9 := blk_frozen BK161.out 9; have hfz28_10 := blk_frozen BK161.out 10; have hfz28_11 := blk_frozen BK161.out 11; have hfz28_12 := blk_frozen BK161.out 12))
                    go_ret
                    exact ⟨by first | rfl | (simp [errW_none, errW_some] <;> rfl) | (simp [*, errW_none, errW_some] <;> rfl), by repeat (first | (with_reducible first | exact HB.out | apply below_alloc | apply pw_below_drewN | apply below_drew1 | refine below_set ?_ GE161.out) | exact HB.out)⟩
                  · rw [if_neg c26] at H
                    have c26b0 : decide (a0_4 < (-128)) = false := decide_eq_false c26
                    clear c26
                    by_cases c29 : a0_4 > 127
                    · rw [if_pos c29] at H
                      have c29b0 : decide (127 < a0_4) = true := decide_eq_true c29
                      clear c29
                      obtain rfl := Option.some.inj H
                      go_enter Try.func28, Try.ntmps28
                      go_wp2_with (first | ((with_reducible refine gate_dst (N := 1) rfl ?_); refine box_event ?hg (N := 1) ?hd (cs := #[.int .i64 a0_0, .int .i64 a0_1, .int .i64 a0_2, .int .i64 a0_3, .int .i64 a0_4, .int .i64 a0_5, .int .u32 a0_6, .int .u32 a0_7, .int .u32 a0_8, .int .u64 a0_9, .int .u64 a0_10, .int .u64 a0_11, .int .u64 a0_12]) (t := 31) ?hr ?_; (case hd => rfl); (case hg => rfl); (case hr => first | (go_simp; done) | (go_simp; rfl)); intro gb161 hg w30 hbox hb; have n0_ := Aside0.mk (below_step (by repeat (first | (with_reducible first | exact HB.out | apply below_alloc | apply pw_below_drewN | apply below_drew1) | exact HB.out)) hb); have n1_ := Aside0.mk (hbox); have n2_ := Aside0.mk ((by rw [hg]; exact (below_size (by repeat (first | (with_reducible first | exact HB.out | apply below_alloc | apply pw_below_drewN | apply below_drew1) | exact HB.out))) : w.heap.size ≤ gb161)); have n3_ := Aside0.mk ((by rw [hg]; exact (below_size (by repeat (first | (with_reducible first | exact HB.out | apply below_alloc | apply pw_below_drewN | apply below_drew1) | exact HB.out))) : w.heap.size ≤ gb161)); clear HB; have HB := n0_; have BK161 := n1_; have GW161 := n2_; have GE161 := n3_; clear n0_ n1_ n2_ n3_; clear hb hbox hg; have hcz31_0 : w30.cell? ⟨gb161, 0, none⟩ = some (.int .i64 a0_0) := (blk_cell BK161.out 0).trans rfl; have hcz31_1 : w30.cell? ⟨gb161, 1, none⟩ = some (.int .i64 a0_1) := (blk_cell BK161.out 1).trans rfl; have hcz31_2 : w30.cell? ⟨gb161, 2, none⟩ = some (.int .i64 a0_2) := (blk_cell BK161.out 2).trans rfl; have hcz31_3 : w30.cell? ⟨gb161, 3, none⟩ = some (.int .i64 a0_3) := (blk_cell BK161.out 3).trans rfl; have hcz31_4 : w30.cell? ⟨gb161, 4, none⟩ = some (.int .i64 a0_4) := (blk_cell BK161.out 4).trans rfl; have hcz31_5 : w30.cell? ⟨gb161, 5, none⟩ = some (.int .i64 a0_5) := (blk_cell BK161.out 5).trans rfl; have hcz31_6 : w30.cell? ⟨gb161, 6, none⟩ = some (.int .u32 a0_6) := (blk_cell BK161.out 6).trans rfl; have hcz31_7 : w30.cell? ⟨gb161, 7, none⟩ = some (.int .u32 a0_7) := (blk_cell BK161.out 7).trans rfl; have hcz31_8 : w30.cell? ⟨gb161, 8, none⟩ = some (.int .u32 a0_8) := (blk_cell BK161.out 8).trans rfl; have hcz31_9 : w30.cell? ⟨gb161, 9, none⟩ = some (.int .u64 a0_9) := (blk_cell BK161.out 9).trans rfl; have hcz31_10 : w30.cell? ⟨gb161, 10, none⟩ = some (.int .u64 a0_10) := (blk_cell BK161.out 10).trans rfl; have hcz31_11 : w30.cell? ⟨gb161, 11, none⟩ = some (.int .u64 a0_11) := (blk_cell BK161.out 11).trans rfl; have hcz31_12 : w30.cell? ⟨gb161, 12, none⟩ = some (.int .u64 a0_12) := (blk_cell BK161.out 12).trans rfl; have hfz31_0 := blk_frozen BK161.out 0; have hfz31_1 := blk_frozen BK161.out 1; have hfz31_2 := blk_frozen BK161.out 2; have hfz31_3 := blk_frozen BK161.out 3; have hfz31_4 := blk_frozen BK161.out 4; have hfz31_5 := blk_frozen BK161.out 5; have hfz31_6 := blk_frozen BK161.out 6; have hfz31_7 := blk_frozen BK161.out 7; have hfz31_8 := blk_frozen BK161.out 8; have hfz31_9 := blk_frozen BK161.out 9; have hfz31_10 := blk_frozen BK161.out 10; have hfz31_11 := blk_frozen BK161.out 11; have hfz31_12 := blk_frozen BK161.out 12))
                      go_ret
                      exact ⟨by first | rfl | (simp [errW_none, errW_some] <;> rfl) | (simp [*, errW_none, errW_some] <;> rfl), by repeat (first | (with_reducible first | exact HB.out | apply below_alloc | apply pw_below_drewN | apply below_drew1 | refine below_set ?_ GE161.out) | exact HB.out)⟩
                    · rw [if_neg c29] at H
                      have c29b0 : decide (127 < a0_4) = false := decide_eq_false c29
                      clear c29
                      by_cases c32 : a0_5 < (-128)
                      · rw [if_pos c32] at H
                        have c32b0 : decide (a0_5 < (-128)) = true := decide_eq_true c32
                        clear c32
                        obtain rfl := Option.some.inj H
                        go_enter Try.func28, Try.ntmps28
                        go_wp2_with (first | ((with_reducible refine gate_dst (N := 1) rfl ?_); refine box_event ?hg (N := 1) ?hd (cs := #[.int .i64 a0_0, .int .i64 a0_1, .int .i64 a0_2, .int .i64 a0_3, .int .i64 a0_4, .int .i64 a0_5, .int .u32 a0_6, .int .u32 a0_7, .int .u32 a0_8, .int .u64 a0_9, .int .u64 a0_10, .int .u64 a0_11, .int .u64 a0_12]) (t := 31) ?hr ?_; (case hd => rfl); (case hg => rfl); (case hr => first | (go_simp; done) | (go_simp; rfl)); intro gb161 hg w33 hbox hb; have n0_ := Aside0.mk (below_step (by repeat (first | (with_reducible first | exact HB.out | apply below_alloc | apply pw_below_drewN | apply below_drew1) | exact HB.out)) hb); have n1_ := Aside0.mk (hbox); have n2_ := Aside0.mk ((by rw [hg]; exact (below_size (by repeat (first | (with_reducible first | exact HB.out | apply below_alloc | apply pw_below_drewN | apply below_drew1) | exact HB.out))) : w.heap.size ≤ gb161)); have n3_ := Aside0.mk ((by rw [hg]; exact (below_size (by repeat (first | (with_reducible first | exact HB.out | apply below_alloc | apply pw_below_drewN | apply below_drew1) | exact HB.out))) : w.heap.size ≤ gb161)); clear HB; have HB := n0_; have BK161 := n1_; have GW161 := n2_; have GE161 := n3_; clear n0_ n1_ n2_ n3_; clear hb hbox hg; have hcz34_0 : w33.cell? ⟨gb161, 0, none⟩ = some (.int .i64 a0_0) := (blk_cell BK161.out 0).trans rfl; have hcz34_1 : w33.cell? ⟨gb161, 1, none⟩ = some (.int .i64 a0_1) := (blk_cell BK161.out 1).trans rfl; have hcz34_2 : w33.cell? ⟨gb161, 2, none⟩ = some (.int .i64 a0_2) := (blk_cell BK161.out 2).trans rfl; have hcz34_3 : w33.cell? ⟨gb161, 3, none⟩ = some (.int .i64 a0_3) := (blk_cell BK161.out 3).trans rfl; have hcz34_4 : w33.cell? ⟨gb161, 4, none⟩ = some (.int .i64 a0_4) := (blk_cell BK161.out 4).trans rfl; have hcz34_5 : w33.cell? ⟨gb161, 5, none⟩ = some (.int .i64 a0_5) := (blk_cell BK161.out 5).trans rfl; have hcz34_6 : w33.cell? ⟨gb161, 6, none⟩ = some (.int .u32 a0_6) := (blk_cell BK161.out 6).trans rfl; have hcz34_7 : w33.cell? ⟨gb161, 7, none⟩ = some (.int .u32 a0_7) := (blk_cell BK161.out 7).trans rfl; have hcz34_8 : w33.cell? ⟨gb161, 8, none⟩ = some (.int .u32 a0_8) := (blk_cell BK161.out 8).trans rfl; have hcz34_9 : w33.cell? ⟨gb161, 9, none⟩ = some (.int .u64 a0_9) := (blk_cell BK161.out 9).trans rfl; have hcz34_10 : w33.cell? ⟨gb161, 10, none⟩ = some (.int .u64 a0_10) := (blk_cell BK161.out 10).trans rfl; have hcz34_11 : w33.cell? ⟨gb161, 11, none⟩ = some (.int .u64 a0_11) := (blk_cell BK161.out 11).trans rfl; have hcz34_12 : w33.cell? ⟨gb161, 12, none⟩ = some (.int .u64 a0_12) := (blk_cell BK161.out 12).trans rfl; have hfz34_0 := blk_frozen BK161.out 0; have hfz34_1 := blk_frozen BK161.out 1; have hfz34_2 := blk_frozen BK161.out 2; have hfz34_3 := blk_frozen BK161.out 3; have hfz34_4 := blk_frozen BK161.out 4; have hfz34_5 := blk_frozen BK161.out 5; have hfz34_6 := blk_frozen BK161.out 6; have hfz34_7 := blk_frozen BK161.out 7; have hfz34_8 := blk_frozen BK161.out 8; have hfz34_9 := blk_frozen BK161.out 9; have hfz34_10 := blk_frozen BK161.out 10; have hfz34_11 := blk_frozen BK161.out 11; have hfz34_12 := blk_frozen BK161.out 12))
                        go_ret
                        exact ⟨by first | rfl | (simp [errW_none, errW_some] <;> rfl) | (simp [*, errW_none, errW_some] <;> rfl), by repeat (first | (with_reducible first | exact HB.out | apply below_alloc | apply pw_below_drewN | apply below_drew1 | refine below_set ?_ GE161.out) | exact HB.out)⟩
                      · rw [if_neg c32] at H
                        have c32b0 : decide (a0_5 < (-128)) = false := decide_eq_false c32
                        clear c32
                        by_cases c35 : a0_5 > 127
                        · rw [if_pos c35] at H
                          have c35b0 : decide (127 < a0_5) = true := decide_eq_true c35
                          clear c35
                          obtain rfl := Option.some.inj H
                          go_enter Try.func28, Try.ntmps28
                          go_wp2_with (first | ((with_reducible refine gate_dst (N := 1) rfl ?_); refine box_event ?hg (N := 1) ?hd (cs := #[.int .i64 a0_0, .int .i64 a0_1, .int .i64 a0_2, .int .i64 a0_3, .int .i64 a0_4, .int .i64 a0_5, .int .u32 a0_6, .int .u32 a0_7, .int .u32 a0_8, .int .u64 a0_9, .int .u64 a0_10, .int .u64 a0_11, .int .u64 a0_12]) (t := 31) ?hr ?_; (case hd => rfl); (case hg => rfl); (case hr => first | (go_simp; done) | (go_simp; rfl)); intro gb161 hg w36 hbox hb; have n0_ := Aside0.mk (below_step (by repeat (first | (with_reducible first | exact HB.out | apply below_alloc | apply pw_below_drewN | apply below_drew1) | exact HB.out)) hb); have n1_ := Aside0.mk (hbox); have n2_ := Aside0.mk ((by rw [hg]; exact (below_size (by repeat (first | (with_reducible first | exact HB.out | apply below_alloc | apply pw_below_drewN | apply below_drew1) | exact HB.out))) : w.heap.size ≤ gb161)); have n3_ := Aside0.mk ((by rw [hg]; exact (below_size (by repeat (first | (with_reducible first | exact HB.out | apply below_alloc | apply pw_below_drewN | apply below_drew1) | exact HB.out))) : w.heap.size ≤ gb161)); clear HB; have HB := n0_; have BK161 := n1_; have GW161 := n2_; have GE161 := n3_; clear n0_ n1_ n2_ n3_; clear hb hbox hg; have hcz37_0 : w36.cell? ⟨gb161, 0, none⟩ = some (.int .i64 a0_0) := (blk_cell BK161.out 0).trans rfl; have hcz37_1 : w36.cell? ⟨gb161, 1, none⟩ = some (.int .i64 a0_1) := (blk_cell BK161.out 1).trans rfl; have hcz37_2 : w36.cell? ⟨gb161, 2, none⟩ = some (.int .i64 a0_2) := (blk_cell BK161.out 2).trans rfl; have hcz37_3 : w36.cell? ⟨gb161, 3, none⟩ = some (.int .i64 a0_3) := (blk_cell BK161.out 3).trans rfl; have hcz37_4 : w36.cell? ⟨gb161, 4, none⟩ = some (.int .i64 a0_4) := (blk_cell BK161.out 4).trans rfl; have hcz37_5 : w36.cell? ⟨gb161, 5, none⟩ = some (.int .i64 a0_5) := (blk_cell BK161.out 5).trans rfl; have hcz37_6 : w36.cell? ⟨gb161, 6, none⟩ = some (.int .u32 a0_6) := (blk_cell BK161.out 6).trans rfl; have hcz37_7 : w36.cell? ⟨gb161, 7, none⟩ = some (.int .u32 a0_7) := (blk_cell BK161.out 7).trans rfl; have hcz37_8 : w36.cell? ⟨gb161, 8, none⟩ = some (.int .u32 a0_8) := (blk_cell BK161.out 8).trans rfl; have hcz37_9 : w36.cell? ⟨gb161, 9, none⟩ = some (.int .u64 a0_9) := (blk_cell BK161.out 9).trans rfl; have hcz37_10 : w36.cell? ⟨gb161, 10, none⟩ = some (.int .u64 a0_10) := (blk_cell BK161.out 10).trans rfl; have hcz37_11 : w36.cell? ⟨gb161, 11, none⟩ = some (.int .u64 a0_11) := (blk_cell BK161.out 11).trans rfl; have hcz37_12 : w36.cell? ⟨gb161, 12, none⟩ = some (.int .u64 a0_12) := (blk_cell BK161.out 12).trans rfl; have hfz37_0 := blk_frozen BK161.out 0; have hfz37_1 := blk_frozen BK161.out 1; have hfz37_2 := blk_frozen BK161.out 2; have hfz37_3 := blk_frozen BK161.out 3; have hfz37_4 := blk_frozen BK161.out 4; have hfz37_5 := blk_frozen BK161.out 5; have hfz37_6 := blk_frozen BK161.out 6; have hfz37_7 := blk_frozen BK161.out 7; have hfz37_8 := blk_frozen BK161.out 8; have hfz37_9 := blk_frozen BK161.out 9; have hfz37_10 := blk_frozen BK161.out 10; have hfz37_11 := blk_frozen BK161.out 11; have hfz37_12 := blk_frozen BK161.out 12))
                          go_ret
                          exact ⟨by first | rfl | (simp [errW_none, errW_some] <;> rfl) | (simp [*, errW_none, errW_some] <;> rfl), by repeat (first | (with_reducible first | exact HB.out | apply below_alloc | apply pw_below_drewN | apply below_drew1 | refine below_set ?_ GE161.out) | exact HB.out)⟩
                        · rw [if_neg c35] at H
                          have c35b0 : decide (127 < a0_5) = false := decide_eq_false c35
                          clear c35
                          obtain rfl := Option.some.inj H
                          go_enter Try.func28, Try.ntmps28
                          go_wp2_with (first | ((with_reducible refine gate_dst (N := 1) rfl ?_); refine box_event ?hg (N := 1) ?hd (cs := #[.int .i64 a0_0, .int .i64 a0_1, .int .i64 a0_2, .int .i64 a0_3, .int .i64 a0_4, .int .i64 a0_5, .int .u32 a0_6, .int .u32 a0_7, .int .u32 a0_8, .int .u64 a0_9, .int .u64 a0_10, .int .u64 a0_11, .int .u64 a0_12]) (t := 31) ?hr ?_; (case hd => rfl); (case hg => rfl); (case hr => first | (go_simp; done) | (go_simp; rfl)); intro gb161 hg w38 hbox hb; have n0_ := Aside0.mk (below_step (by repeat (first | (with_reducible first | exact HB.out | apply below_alloc | apply pw_below_drewN | apply below_drew1) | exact HB.out)) hb); have n1_ := Aside0.mk (hbox); have n2_ := Aside0.mk ((by rw [hg]; exact (below_size (by repeat (first | (with_reducible first | exact HB.out | apply below_alloc | apply pw_below_drewN | apply below_drew1) | exact HB.out))) : w.heap.size ≤ gb161)); have n3_ := Aside0.mk ((by rw [hg]; exact (below_size (by repeat (first | (with_reducible first | exact HB.out | apply below_alloc | apply pw_below_drewN | apply below_drew1) | exact HB.out))) : w.heap.size ≤ gb161)); clear HB; have HB := n0_; have BK161 := n1_; have GW161 := n2_; have GE161 := n3_; clear n0_ n1_ n2_ n3_; clear hb hbox hg; have hcz39_0 : w38.cell? ⟨gb161, 0, none⟩ = some (.int .i64 a0_0) := (blk_cell BK161.out 0).trans rfl; have hcz39_1 : w38.cell? ⟨gb161, 1, none⟩ = some (.int .i64 a0_1) := (blk_cell BK161.out 1).trans rfl; have hcz39_2 : w38.cell? ⟨gb161, 2, none⟩ = some (.int .i64 a0_2) := (blk_cell BK161.out 2).trans rfl; have hcz39_3 : w38.cell? ⟨gb161, 3, none⟩ = some (.int .i64 a0_3) := (blk_cell BK161.out 3).trans rfl; have hcz39_4 : w38.cell? ⟨gb161, 4, none⟩ = some (.int .i64 a0_4) := (blk_cell BK161.out 4).trans rfl; have hcz39_5 : w38.cell? ⟨gb161, 5, none⟩ = some (.int .i64 a0_5) := (blk_cell BK161.out 5).trans rfl; have hcz39_6 : w38.cell? ⟨gb161, 6, none⟩ = some (.int .u32 a0_6) := (blk_cell BK161.out 6).trans rfl; have hcz39_7 : w38.cell? ⟨gb161, 7, none⟩ = some (.int .u32 a0_7) := (blk_cell BK161.out 7).trans rfl; have hcz39_8 : w38.cell? ⟨gb161, 8, none⟩ = some (.int .u32 a0_8) := (blk_cell BK161.out 8).trans rfl; have hcz39_9 : w38.cell? ⟨gb161, 9, none⟩ = some (.int .u64 a0_9) := (blk_cell BK161.out 9).trans rfl; have hcz39_10 : w38.cell? ⟨gb161, 10, none⟩ = some (.int .u64 a0_10) := (blk_cell BK161.out 10).trans rfl; have hcz39_11 : w38.cell? ⟨gb161, 11, none⟩ = some (.int .u64 a0_11) := (blk_cell BK161.out 11).trans rfl; have hcz39_12 : w38.cell? ⟨gb161, 12, none⟩ = some (.int .u64 a0_12) := (blk_cell BK161.out 12).trans rfl; have hfz39_0 := blk_frozen BK161.out 0; have hfz39_1 := blk_frozen BK161.out 1; have hfz39_2 := blk_frozen BK161.out 2; have hfz39_3 := blk_frozen BK161.out 3; have hfz39_4 := blk_frozen BK161.out 4; have hfz39_5 := blk_frozen BK161.out 5; have hfz39_6 := blk_frozen BK161.out 6; have hfz39_7 := blk_frozen BK161.out 7; have hfz39_8 := blk_frozen BK161.out 8; have hfz39_9 := blk_frozen BK161.out 9; have hfz39_10 := blk_frozen BK161.out 10; have hfz39_11 := blk_frozen BK161.out 11; have hfz39_12 := blk_frozen BK161.out 12))
                          go_ret
                          exact ⟨by first | rfl | (simp [errW_none, errW_some] <;> rfl) | (simp [*, errW_none, errW_some] <;> rfl), by repeat (first | (with_reducible first | exact HB.out | apply below_alloc | apply pw_below_drewN | apply below_drew1 | refine below_set ?_ GE161.out) | exact HB.out)⟩

/-! ### timesyncref19_Kiss: function 38 -/
def timesyncref19_Kiss.l0 : Nat → List Int → Int → Int → Int → Int → Int → Int → Int → Int → Int → Int → Int → Int → Int → Int → Option (ByteArray × Bool)
  | 0, _, _, _, _, _, _, _, _, _, _, _, _, _, _, _ => none
  | k + 1, x4, x5, x163000, x163001, x163002, x163003, x163004, x163005, x163006, x163007, x163008, x163009, x163010, x163011, x163012 => if x5 < 4 then (if 0 ≤ (wrap64 (24 - (wrap64 (8 * x5)))) then (if ((shr .u32 x163008 (wrap64 (24 - (wrap64 (8 * x5))))) % 256) < 65 then (some ((⟨#[]⟩ : ByteArray), false)) else (if ((shr .u32 x163008 (wrap64 (24 - (wrap64 (8 * x5))))) % 256) > 90 then (some ((⟨#[]⟩ : ByteArray), false)) else (if x4.length < 140737488355328 then (timesyncref19_Kiss.l0 k (x4 ++ [(shr .u32 x163008 (wrap64 (24 - (wrap64 (8 * x5))))) % 256]) (wrap64 (x5 + 1)) x163000 x163001 x163002 x163003 x163004 x163005 x163006 x163007 x163008 x163009 x163010 x163011 x163012) else (none)))) else (none)) else (some (strOfNums x4, true))
def timesyncref19_Kiss.f (k : Nat) (a0_0 : Int) (a0_1 : Int) (a0_2 : Int) (a0_3 : Int) (a0_4 : Int) (a0_5 : Int) (a0_6 : Int) (a0_7 : Int) (a0_8 : Int) (a0_9 : Int) (a0_10 : Int) (a0_11 : Int) (a0_12 : Int) : Option (ByteArray × Bool) := if a0_3 = 0 then (timesyncref19_Kiss.l0 k ([] : List Int) 0 a0_0 a0_1 a0_2 a0_3 a0_4 a0_5 a0_6 a0_7 a0_8 a0_9 a0_10 a0_11 a0_12) else (some ((⟨#[]⟩ : ByteArray), false))
theorem timesyncref19_Kiss.mono_l : ∀ k, (∀ y0 y1 y2 y3 y4 y5 y6 y7 y8 y9 y10 y11 y12 y13 y14, LeO (timesyncref19_Kiss.l0 k y0 y1 y2 y3 y4 y5 y6 y7 y8 y9 y10 y11 y12 y13 y14) (timesyncref19_Kiss.l0 (k + 1) y0 y1 y2 y3 y4 y5 y6 y7 y8 y9 y10 y11 y12 y13 y14))
  | 0 => fun _ _ _ _ _ _ _ _ _ _ _ _ _ _ _ r h => by simp [timesyncref19_Kiss.l0] at h
  | k + 1 => by
    have ih0 := timesyncref19_Kiss.mono_l k
    · intro y0 y1 y2 y3 y4 y5 y6 y7 y8 y9 y10 y11 y12 y13 y14
      unfold timesyncref19_Kiss.l0
      repeat' first
      | (with_reducible exact ih0 _ _ _ _ _ _ _ _ _ _ _ _ _ _ _)
      | (with_reducible exact LeO.refl _)
      | (with_reducible exact LeO.none _)
      | (with_reducible refine LeO.ite ?_ ?_)
      | (with_reducible refine LeO.bind ?_ (fun _ => ?_))
      | exact ih0 _ _ _ _ _ _ _ _ _ _ _ _ _ _ _
      | exact LeO.none _
      | refine LeO.ite ?_ ?_
      | refine LeO.bind ?_ (fun _ => ?_)
theorem timesyncref19_Kiss.mono : ∀ a0 a1 a2 a3 a4 a5 a6 a7 a8 a9 a10 a11 a12 k, LeO (timesyncref19_Kiss.f k a0 a1 a2 a3 a4 a5 a6 a7 a8 a9 a10 a11 a12) (timesyncref19_Kiss.f (k + 1) a0 a1 a2 a3 a4 a5 a6 a7 a8 a9 a10 a11 a12) := by
  intro a0 a1 a2 a3 a4 a5 a6 a7 a8 a9 a10 a11 a12 k
  have ih0 := timesyncref19_Kiss.mono_l k
  unfold timesyncref19_Kiss.f
  repeat' first
      | (with_reducible exact ih0 _ _ _ _ _ _ _ _ _ _ _ _ _ _ _)
      | (with_reducible exact LeO.refl _)
      | (with_reducible exact LeO.none _)
      | (with_reducible refine LeO.ite ?_ ?_)
      | (with_reducible refine LeO.bind ?_ (fun _ => ?_))
      | exact ih0 _ _ _ _ _ _ _ _ _ _ _ _ _ _ _
      | exact LeO.none _
      | refine LeO.ite ?_ ?_
      | refine LeO.bind ?_ (fun _ => ?_)
set_option maxHeartbeats 8000000 in
set_option maxRecDepth 100000 in
theorem timesyncref19_Kiss.calls (k : Nat) (a0_0 : Int) (a0_1 : Int) (a0_2 : Int) (a0_3 : Int) (a0_4 : Int) (a0_5 : Int) (a0_6 : Int) (a0_7 : Int) (a0_8 : Int) (a0_9 : Int) (a0_10 : Int) (a0_11 : Int) (a0_12 : Int) (r1 : ByteArray) (r2 : Bool) (w : World) (h : timesyncref19_Kiss.f k a0_0 a0_1 a0_2 a0_3 a0_4 a0_5 a0_6 a0_7 a0_8 a0_9 a0_10 a0_11 a0_12 = some (r1, r2)) :
    Calls Try.prog 38 #[.agg #[.int .i64 a0_0, .int .i64 a0_1, .int .i64 a0_2, .int .i64 a0_3, .int .i64 a0_4, .int .i64 a0_5, .int .u32 a0_6, .int .u32 a0_7, .int .u32 a0_8, .int .u64 a0_9, .int .u64 a0_10, .int .u64 a0_11, .int .u64 a0_12]] w fun e w' => e = .returned (.tuple #[.string r1, .bool r2]) ∧ Below w.heap.size w w' := by
  have hu31 := Try.underlying31
  have HB := Aside0.mk (Below.refl w.heap.size w)
  have H : (if a0_3 = 0 then (timesyncref19_Kiss.l0 k ([] : List Int) 0 a0_0 a0_1 a0_2 a0_3 a0_4 a0_5 a0_6 a0_7 a0_8 a0_9 a0_10 a0_11 a0_12) else (some ((⟨#[]⟩ : ByteArray), false))) = some (r1, r2) := h
  clear h
  by_cases c2 : a0_3 = 0
  · rw [if_pos c2] at H
    have c2b0 : (a0_3 == 0) = true := beq_iff_eq.mpr c2
    have c2b1 : (a0_3 != 0) = false := bne_eq_false_iff_eq.mpr c2
    clear c2
    have H' := Aside0.mk H
    clear H
    go_enter Try.func38, Try.ntmps38
    go_wp2_with (first | ((with_reducible refine gate_dst (N := 1) rfl ?_); refine box_event ?hg (N := 1) ?hd (cs := #[.int .i64 a0_0, .int .i64 a0_1, .int .i64 a0_2, .int .i64 a0_3, .int .i64 a0_4, .int .i64 a0_5, .int .u32 a0_6, .int .u32 a0_7, .int .u32 a0_8, .int .u64 a0_9, .int .u64 a0_10, .int .u64 a0_11, .int .u64 a0_12]) (t := 31) ?hr ?_; (case hd => rfl); (case hg => rfl); (case hr => first | (go_simp; done) | (go_simp; rfl)); intro gb162 hg w3 hbox hb; have n0_ := Aside0.mk (below_step (by repeat (first | (with_reducible first | exact HB.out | apply below_alloc | apply pw_below_drewN | apply below_drew1) | exact HB.out)) hb); have n1_ := Aside0.mk (hbox); have n2_ := Aside0.mk ((by rw [hg]; exact (below_size (by repeat (first | (with_reducible first | exact HB.out | apply below_alloc | apply pw_below_drewN | apply below_drew1) | exact HB.out))) : w.heap.size ≤ gb162)); have n3_ := Aside0.mk ((by rw [hg]; exact (below_size (by repeat (first | (with_reducible first | exact HB.out | apply below_alloc | apply pw_below_drewN | apply below_drew1) | exact HB.out))) : w.heap.size ≤ gb162)); clear HB; have HB := n0_; have BK162 := n1_; have GW162 := n2_; have GE162 := n3_; clear n0_ n1_ n2_ n3_; clear hb hbox hg; have hcz4_0 : w3.cell? ⟨gb162, 0, none⟩ = some (.int .i64 a0_0) := (blk_cell BK162.out 0).trans rfl; have hcz4_1 : w3.cell? ⟨gb162, 1, none⟩ = some (.int .i64 a0_1) := (blk_cell BK162.out 1).trans rfl; have hcz4_2 : w3.cell? ⟨gb162, 2, none⟩ = some (.int .i64 a0_2) := (blk_cell BK162.out 2).trans rfl; have hcz4_3 : w3.cell? ⟨gb162, 3, none⟩ = some (.int .i64 a0_3) := (blk_cell BK162.out 3).trans rfl; have hcz4_4 : w3.cell? ⟨gb162, 4, none⟩ = some (.int .i64 a0_4) := (blk_cell BK162.out 4).trans rfl; have hcz4_5 : w3.cell? ⟨gb162, 5, none⟩ = some (.int .i64 a0_5) := (blk_cell BK162.out 5).trans rfl; have hcz4_6 : w3.cell? ⟨gb162, 6, none⟩ = some (.int .u32 a0_6) := (blk_cell BK162.out 6).trans rfl; have hcz4_7 : w3.cell? ⟨gb162, 7, none⟩ = some (.int .u32 a0_7) := (blk_cell BK162.out 7).trans rfl; have hcz4_8 : w3.cell? ⟨gb162, 8, none⟩ = some (.int .u32 a0_8) := (blk_cell BK162.out 8).trans rfl; have hcz4_9 : w3.cell? ⟨gb162, 9, none⟩ = some (.int .u64 a0_9) := (blk_cell BK162.out 9).trans rfl; have hcz4_10 : w3.cell? ⟨gb162, 10, none⟩ = some (.int .u64 a0_10) := (blk_cell BK162.out 10).trans rfl; have hcz4_11 : w3.cell? ⟨gb162, 11, none⟩ = some (.int .u64 a0_11) := (blk_cell BK162.out 11).trans rfl; have hcz4_12 : w3.cell? ⟨gb162, 12, none⟩ = some (.int .u64 a0_12) := (blk_cell BK162.out 12).trans rfl; have hfz4_0 := blk_frozen BK162.out 0; have hfz4_1 := blk_frozen BK162.out 1; have hfz4_2 := blk_frozen BK162.out 2; have hfz4_3 := blk_frozen BK162.out 3; have hfz4_4 := blk_frozen BK162.out 4; have hfz4_5 := blk_frozen BK162.out 5; have hfz4_6 := blk_frozen BK162.out 6; have hfz4_7 := blk_frozen BK162.out 7; have hfz4_8 := blk_frozen BK162.out 8; have hfz4_9 := blk_frozen BK162.out 9; have hfz4_10 := blk_frozen BK162.out 10; have hfz4_11 := blk_frozen BK162.out 11; have hfz4_12 := blk_frozen BK162.out 12))
    go_loopg [4, 5] k (fun kq v4 v5 w' => ∃ (x4_1 : List Int) (x5_1 : Int), v5 = .int .i64 x5_1 ∧ Aside0 (timesyncref19_Kiss.l0 kq x4_1 x5_1 a0_0 a0_1 a0_2 a0_3 a0_4 a0_5 a0_6 a0_7 a0_8 a0_9 a0_10 a0_11 a0_12 = some (r1, r2)) ∧ Aside0 (kq ≤ k) ∧ Aside0 (Kd.R (Kd.int .u8) 5 w' w.heap.size (fun _ => True) v4 x4_1) ∧ Aside0 (w'.heap[gb162]? = some (.cells #[.int .i64 a0_0, .int .i64 a0_1, .int .i64 a0_2, .int .i64 a0_3, .int .i64 a0_4, .int .i64 a0_5, .int .u32 a0_6, .int .u32 a0_7, .int .u32 a0_8, .int .u64 a0_9, .int .u64 a0_10, .int .u64 a0_11, .int .u64 a0_12] 31 (0, 0))) ∧ Aside0 (Below w.heap.size w w'))
    case atStart => exact ⟨(([] : List Int)), (0), (by first | rfl | (simp; done) | (simp [*]; done)), H', ⟨Nat.le_refl _⟩, ⟨by first | exact Kd.R_nil _ _ _ _ _ | exact Kd.N_nil _ _ _ _ _ | exact Kd.V_nil _ _ _ _ _ | exact Kd.Q_nil _ _ _ _ _ | exact Kd.S_nil _ _ _ _ _⟩, ⟨by (with_reducible repeat (first | refine blk_drewN ?_ _ | refine blk_drew ?_ | refine blk_alloc ?_ _)); exact BK162.out⟩, ⟨by repeat (first | (with_reducible first | exact HB.out | apply below_alloc | apply pw_below_drewN | apply below_drew1 | refine below_set ?_ GE162.out) | exact HB.out)⟩⟩
    case round =>
      clear H'
      try clear c2
      try clear c2b0
      try clear c2b1
      try clear p2
      try clear c3
      try clear hcz4_0
      try clear hcz4_1
      try clear hcz4_10
      try clear hcz4_11
      try clear hcz4_12
      try clear hcz4_2
      try clear hcz4_3
      try clear hcz4_4
      try clear hcz4_5
      try clear hcz4_6
      try clear hcz4_7
      try clear hcz4_8
      try clear hcz4_9
      try clear hfz4_0
      try clear hfz4_1
      try clear hfz4_10
      try clear hfz4_11
      try clear hfz4_12
      try clear hfz4_2
      try clear hfz4_3
      try clear hfz4_4
      try clear hfz4_5
      try clear hfz4_6
      try clear hfz4_7
      try clear hfz4_8
      try clear hfz4_9
      obtain ⟨x4_1, x5_1, rfl, HA, HK1, HO_4, BK162, HB⟩ := hrel
      cases gk with
      | zero => exact absurd HA.out (by simp [timesyncref19_Kiss.l0])
      | succ k1 =>
        have H := HA.out
        clear HA
        simp only [timesyncref19_Kiss.l0] at H
        by_cases c5 : x5_1 < 4
        · rw [if_pos c5] at H
          have c5b0 : decide (x5_1 < 4) = true := decide_eq_true c5
          clear c5
          obtain ⟨ji6, hji6⟩ : ∃ j_ : Int, (wrap64 (24 - (wrap64 (8 * x5_1)))) = j_ := ⟨_, rfl⟩
          replace H : (if 0 ≤ (ji6) then (if ((shr .u32 a0_8 (ji6)) % 256) < 65 then (some ((⟨#[]⟩ : ByteArray), false)) else (if ((shr .u32 a0_8 (ji6)) % 256) > 90 then (some ((⟨#[]⟩ : ByteArray), false)) else (if x4_1.length < 140737488355328 then (timesyncref19_Kiss.l0 k1 (x4_1 ++ [(shr .u32 a0_8 (ji6)) % 256]) (wrap64 (x5_1 + 1)) a0_0 a0_1 a0_2 a0_3 a0_4 a0_5 a0_6 a0_7 a0_8 a0_9 a0_10 a0_11 a0_12) else (none)))) else (none)) = some (r1, r2) := by first | (rw [hji6] at H; exact H) | (simp only [hji6] at H ⊢; exact H)
          have hji6w : (IntKind.i64.wrap (24 - (wrap64 (8 * x5_1)))) = ji6 := (i64_w _).trans hji6
          by_cases c7 : 0 ≤ (ji6)
          · rw [if_pos c7] at H
            have c7b0 := eq_true c7
            have c7b1 : decide (0 ≤ (ji6)) = true := decide_eq_true c7
            clear c7
            obtain ⟨ji8, hji8⟩ : ∃ j_ : Int, (shr .u32 a0_8 (ji6)) = j_ := ⟨_, rfl⟩
            replace H : (if ((ji8) % 256) < 65 then (some ((⟨#[]⟩ : ByteArray), false)) else (if ((ji8) % 256) > 90 then (some ((⟨#[]⟩ : ByteArray), false)) else (if x4_1.length < 140737488355328 then (timesyncref19_Kiss.l0 k1 (x4_1 ++ [(ji8) % 256]) (wrap64 (x5_1 + 1)) a0_0 a0_1 a0_2 a0_3 a0_4 a0_5 a0_6 a0_7 a0_8 a0_9 a0_10 a0_11 a0_12) else (none)))) = some (r1, r2) := by first | (rw [hji8] at H; exact H) | (simp only [hji8] at H ⊢; exact H)
            have hji8_ : (a0_8 / 2 ^ min (ji6).toNat 32) = ji8 := hji8
            have hji8z : (ji6) ≤ 32 → (a0_8 / 2 ^ (ji6).toNat) = ji8 := shr_small hji8
            by_cases c9 : ((ji8) % 256) < 65
            · rw [if_pos c9] at H
              have c9b0 : decide (((ji8) % 256) < 65) = true := decide_eq_true c9
              clear c9
              simp only [Option.some.injEq, Prod.mk.injEq] at H
              obtain ⟨rfl, rfl⟩ := H
              have hcz10_0 : wr.cell? ⟨gb162, 0, none⟩ = some (.int .i64 a0_0) := (blk_cell BK162.out 0).trans rfl
              have hcz10_1 : wr.cell? ⟨gb162, 1, none⟩ = some (.int .i64 a0_1) := (blk_cell BK162.out 1).trans rfl
              have hcz10_2 : wr.cell? ⟨gb162, 2, none⟩ = some (.int .i64 a0_2) := (blk_cell BK162.out 2).trans rfl
              have hcz10_3 : wr.cell? ⟨gb162, 3, none⟩ = some (.int .i64 a0_3) := (blk_cell BK162.out 3).trans rfl
              have hcz10_4 : wr.cell? ⟨gb162, 4, none⟩ = some (.int .i64 a0_4) := (blk_cell BK162.out 4).trans rfl
              have hcz10_5 : wr.cell? ⟨gb162, 5, none⟩ = some (.int .i64 a0_5) := (blk_cell BK162.out 5).trans rfl
              have hcz10_6 : wr.cell? ⟨gb162, 6, none⟩ = some (.int .u32 a0_6) := (blk_cell BK162.out 6).trans rfl
              have hcz10_7 : wr.cell? ⟨gb162, 7, none⟩ = some (.int .u32 a0_7) := (blk_cell BK162.out 7).trans rfl
              have hcz10_8 : wr.cell? ⟨gb162, 8, none⟩ = some (.int .u32 a0_8) := (blk_cell BK162.out 8).trans rfl
              have hcz10_9 : wr.cell? ⟨gb162, 9, none⟩ = some (.int .u64 a0_9) := (blk_cell BK162.out 9).trans rfl
              have hcz10_10 : wr.cell? ⟨gb162, 10, none⟩ = some (.int .u64 a0_10) := (blk_cell BK162.out 10).trans rfl
              have hcz10_11 : wr.cell? ⟨gb162, 11, none⟩ = some (.int .u64 a0_11) := (blk_cell BK162.out 11).trans rfl
              have hcz10_12 : wr.cell? ⟨gb162, 12, none⟩ = some (.int .u64 a0_12) := (blk_cell BK162.out 12).trans rfl
              have hfz10_0 := blk_frozen BK162.out 0
              have hfz10_1 := blk_frozen BK162.out 1
              have hfz10_2 := blk_frozen BK162.out 2
              have hfz10_3 := blk_frozen BK162.out 3
              have hfz10_4 := blk_frozen BK162.out 4
              have hfz10_5 := blk_frozen BK162.out 5
              have hfz10_6 := blk_frozen BK162.out 6
              have hfz10_7 := blk_frozen BK162.out 7
              have hfz10_8 := blk_frozen BK162.out 8
              have hfz10_9 := blk_frozen BK162.out 9
              have hfz10_10 := blk_frozen BK162.out 10
              have hfz10_11 := blk_frozen BK162.out 11
              have hfz10_12 := blk_frozen BK162.out 12
              go_wp2
              go_ret2
              exact ⟨by first | rfl | (simp [errW_none, errW_some] <;> rfl) | (simp only [← hji6, ← hji8]; first | rfl | (simp [errW_none, errW_some] <;> rfl)) | (simp [*, errW_none, errW_some] <;> rfl), by repeat (first | (with_reducible first | exact HB.out | apply below_alloc | apply pw_below_drewN | apply below_drew1 | refine below_set ?_ GE162.out) | exact HB.out)⟩
            · rw [if_neg c9] at H
              have c9b0 : decide (((ji8) % 256) < 65) = false := decide_eq_false c9
              clear c9
              by_cases c11 : ((ji8) % 256) > 90
              · rw [if_pos c11] at H
                have c11b0 : decide (90 < ((ji8) % 256)) = true := decide_eq_true c11
                clear c11
                simp only [Option.some.injEq, Prod.mk.injEq] at H
                obtain ⟨rfl, rfl⟩ := H
                have hcz12_0 : wr.cell? ⟨gb162, 0, none⟩ = some (.int .i64 a0_0) := (blk_cell BK162.out 0).trans rfl
                have hcz12_1 : wr.cell? ⟨gb162, 1, none⟩ = some (.int .i64 a0_1) := (blk_cell BK162.out 1).trans rfl
                have hcz12_2 : wr.cell? ⟨gb162, 2, none⟩ = some (.int .i64 a0_2) := (blk_cell BK162.out 2).trans rfl
                have hcz12_3 : wr.cell? ⟨gb162, 3, none⟩ = some (.int .i64 a0_3) := (blk_cell BK162.out 3).trans rfl
                have hcz12_4 : wr.cell? ⟨gb162, 4, none⟩ = some (.int .i64 a0_4) := (blk_cell BK162.out 4).trans rfl
                have hcz12_5 : wr.cell? ⟨gb162, 5, none⟩ = some (.int .i64 a0_5) := (blk_cell BK162.out 5).trans rfl
                have hcz12_6 : wr.cell? ⟨gb162, 6, none⟩ = some (.int .u32 a0_6) := (blk_cell BK162.out 6).trans rfl
                have hcz12_7 : wr.cell? ⟨gb162, 7, none⟩ = some (.int .u32 a0_7) := (blk_cell BK162.out 7).trans rfl
                have hcz12_8 : wr.cell? ⟨gb162, 8, none⟩ = some (.int .u32 a0_8) := (blk_cell BK162.out 8).trans rfl
                have hcz12_9 : wr.cell? ⟨gb162, 9, none⟩ = some (.int .u64 a0_9) := (blk_cell BK162.out 9).trans rfl
                have hcz12_10 : wr.cell? ⟨gb162, 10, none⟩ = some (.int .u64 a0_10) := (blk_cell BK162.out 10).trans rfl
                have hcz12_11 : wr.cell? ⟨gb162, 11, none⟩ = some (.int .u64 a0_11) := (blk_cell BK162.out 11).trans rfl
                have hcz12_12 : wr.cell? ⟨gb162, 12, none⟩ = some (.int .u64 a0_12) := (blk_cell BK162.out 12).trans rfl
                have hfz12_0 := blk_frozen BK162.out 0
                have hfz12_1 := blk_frozen BK162.out 1
                have hfz12_2 := blk_frozen BK162.out 2
                have hfz12_3 := blk_frozen BK162.out 3
                have hfz12_4 := blk_frozen BK162.out 4
                have hfz12_5 := blk_frozen BK162.out 5
                have hfz12_6 := blk_frozen BK162.out 6
                have hfz12_7 := blk_frozen BK162.out 7
                have hfz12_8 := blk_frozen BK162.out 8
                have hfz12_9 := blk_frozen BK162.out 9
                have hfz12_10 := blk_frozen BK162.out 10
                have hfz12_11 := blk_frozen BK162.out 11
                have hfz12_12 := blk_frozen BK162.out 12
                go_wp2
                go_ret2
                exact ⟨by first | rfl | (simp [errW_none, errW_some] <;> rfl) | (simp only [← hji6, ← hji8]; first | rfl | (simp [errW_none, errW_some] <;> rfl)) | (simp [*, errW_none, errW_some] <;> rfl), by repeat (first | (with_reducible first | exact HB.out | apply below_alloc | apply pw_below_drewN | apply below_drew1 | refine below_set ?_ GE162.out) | exact HB.out)⟩
              · rw [if_neg c11] at H
                have c11b0 : decide (90 < ((ji8) % 256)) = false := decide_eq_false c11
                clear c11
                by_cases c13 : x4_1.length < 140737488355328
                · rw [if_pos c13] at H
                  have LMc13 := Aside0.mk c13
                  clear c13
                  obtain ⟨y163, hy163⟩ : ∃ y_ : List Int, y_ = (x4_1 ++ [(ji8) % 256]) := ⟨_, rfl⟩
                  replace H : (timesyncref19_Kiss.l0 k1 y163 (wrap64 (x5_1 + 1)) a0_0 a0_1 a0_2 a0_3 a0_4 a0_5 a0_6 a0_7 a0_8 a0_9 a0_10 a0_11 a0_12) = some (r1, r2) := by first | (rw [hy163]; with_reducible exact H) | (have H2_ := (Option.bind_some _ _).symm.trans H; rw [hy163]; with_reducible exact H2_) | (have H2_ := (Option.bind_some _ _).symm.trans H; with_reducible exact H2_) | with_reducible exact H | (rw [hy163]; exact H) | exact H
                  have Ny163 := Aside0.mk hy163
                  clear hy163
                  have H' := Aside0.mk H
                  clear H
                  have hcz14_0 : wr.cell? ⟨gb162, 0, none⟩ = some (.int .i64 a0_0) := (blk_cell BK162.out 0).trans rfl
                  have hcz14_1 : wr.cell? ⟨gb162, 1, none⟩ = some (.int .i64 a0_1) := (blk_cell BK162.out 1).trans rfl
                  have hcz14_2 : wr.cell? ⟨gb162, 2, none⟩ = some (.int .i64 a0_2) := (blk_cell BK162.out 2).trans rfl
                  have hcz14_3 : wr.cell? ⟨gb162, 3, none⟩ = some (.int .i64 a0_3) := (blk_cell BK162.out 3).trans rfl
                  have hcz14_4 : wr.cell? ⟨gb162, 4, none⟩ = some (.int .i64 a0_4) := (blk_cell BK162.out 4).trans rfl
                  have hcz14_5 : wr.cell? ⟨gb162, 5, none⟩ = some (.int .i64 a0_5) := (blk_cell BK162.out 5).trans rfl
                  have hcz14_6 : wr.cell? ⟨gb162, 6, none⟩ = some (.int .u32 a0_6) := (blk_cell BK162.out 6).trans rfl
                  have hcz14_7 : wr.cell? ⟨gb162, 7, none⟩ = some (.int .u32 a0_7) := (blk_cell BK162.out 7).trans rfl
                  have hcz14_8 : wr.cell? ⟨gb162, 8, none⟩ = some (.int .u32 a0_8) := (blk_cell BK162.out 8).trans rfl
                  have hcz14_9 : wr.cell? ⟨gb162, 9, none⟩ = some (.int .u64 a0_9) := (blk_cell BK162.out 9).trans rfl
                  have hcz14_10 : wr.cell? ⟨gb162, 10, none⟩ = some (.int .u64 a0_10) := (blk_cell BK162.out 10).trans rfl
                  have hcz14_11 : wr.cell? ⟨gb162, 11, none⟩ = some (.int .u64 a0_11) := (blk_cell BK162.out 11).trans rfl
                  have hcz14_12 : wr.cell? ⟨gb162, 12, none⟩ = some (.int .u64 a0_12) := (blk_cell BK162.out 12).trans rfl
                  have hfz14_0 := blk_frozen BK162.out 0
                  have hfz14_1 := blk_frozen BK162.out 1
                  have hfz14_2 := blk_frozen BK162.out 2
                  have hfz14_3 := blk_frozen BK162.out 3
                  have hfz14_4 := blk_frozen BK162.out 4
                  have hfz14_5 := blk_frozen BK162.out 5
                  have hfz14_6 := blk_frozen BK162.out 6
                  have hfz14_7 := blk_frozen BK162.out 7
                  have hfz14_8 := blk_frozen BK162.out 8
                  have hfz14_9 := blk_frozen BK162.out 9
                  have hfz14_10 := blk_frozen BK162.out 10
                  have hfz14_11 := blk_frozen BK162.out 11
                  have hfz14_12 := blk_frozen BK162.out 12
                  go_wp2_with (first | ((with_reducible refine gate_builtin (b := .append) (xs := #[.tmp 27, .tmp 29]) rfl ?_); at_builtin; refine Kd.R_append (Kd.int .u8) (w0 := w) w.heap.size rfl (.tmp 27) (.tmp 29) 77 5 (.int .u8 0) 1 rfl Try.underlying77 info5 rfl (by decide) (by omega) u4 x4_1 ((ji8) % 256) [.int .u8 ((ji8) % 256)] (fun _ => True) (fun _ => False) rfl rfl ?aP (fun _ hk => hk.elim) ?aF ?aO ?aB ?aS ?aL ?_; (case aP => exact rfl); (case aB => exact (by repeat (first | (with_reducible first | exact HB.out | apply below_alloc | apply pw_below_drewN | apply below_drew1 | refine below_set ?_ GE162.out) | exact HB.out))); (case aF => exact (fun _ _ => trivial)); (case aO => exact (by (with_reducible repeat (first | apply Kd.R_alloc | apply Kd.R_drewN | apply Kd.R_drew)); exact HO_4.out)); (case aS => exact (below_size (by repeat (first | (with_reducible first | exact HB.out | apply below_alloc | apply pw_below_drewN | apply below_drew1 | refine below_set ?_ GE162.out) | exact HB.out)))); (case aL => have := LMc13.out; omega); intro v164 w15 ho hb hg hat; rw [← Ny163.out] at ho; have n0_ := Aside0.mk (blk_grown (g := gb162) (o := .cells #[.int .i64 a0_0, .int .i64 a0_1, .int .i64 a0_2, .int .i64 a0_3, .int .i64 a0_4, .int .i64 a0_5, .int .u32 a0_6, .int .u32 a0_7, .int .u32 a0_8, .int .u64 a0_9, .int .u64 a0_10, .int .u64 a0_11, .int .u64 a0_12] 31 (0, 0)) (by (with_reducible repeat (first | refine blk_drewN ?_ _ | refine blk_drew ?_ | refine blk_alloc ?_ _)); exact BK162.out) hg (Kd.R_ne HO_4.out BK162.out (by decide))); have n1_ := Aside0.mk (hb); have n2_ := Aside0.mk (ho); clear BK162; clear HB; clear HO_4; have BK162 := n0_; have HB := n1_; have HO165 := n2_; clear n0_ n1_ n2_; clear ho hb hg hat))
                  go_roundg k1
                  case measure => have := HK1.out; omega
                  case rel => exact ⟨(y163), (wrap64 (x5_1 + 1)), (by first | rfl | (simp; done) | (simp [*]; done)), H', ⟨by have := HK1.out; omega⟩, ⟨by (with_reducible repeat (first | apply Kd.R_alloc | apply Kd.R_drewN | apply Kd.R_drew)); exact HO165.out⟩, ⟨by (with_reducible repeat (first | refine blk_drewN ?_ _ | refine blk_drew ?_ | refine blk_alloc ?_ _)); exact BK162.out⟩, ⟨by repeat (first | (with_reducible first | exact HB.out | apply below_alloc | apply pw_below_drewN | apply below_drew1 | refine below_set ?_ GE162.out) | exact HB.out)⟩⟩
                · rw [if_neg c13] at H
                  exact absurd H (by simp)
          · rw [if_neg c7] at H
            exact absurd H (by simp)
        · rw [if_neg c5] at H
          have c5b0 : decide (x5_1 < 4) = false := decide_eq_false c5
          clear c5
          simp only [Option.some.injEq, Prod.mk.injEq] at H
          obtain ⟨rfl, rfl⟩ := H
          have hcv16 := own_string (P := Try.prog) Try.underlying77 Try.underlying5 Try.underlying9 (Kd.own_of_R HO_4.out)
          go_wp2
          go_ret2
          exact ⟨by first | rfl | (simp [errW_none, errW_some] <;> rfl) | (simp [*, errW_none, errW_some] <;> rfl), by repeat (first | (with_reducible first | exact HB.out | apply below_alloc | apply pw_below_drewN | apply below_drew1 | refine below_set ?_ GE162.out) | exact HB.out)⟩
  · rw [if_neg c2] at H
    have c2b0 : (a0_3 == 0) = false := beq_eq_false_iff_ne.mpr c2
    have c2b1 : (a0_3 != 0) = true := bne_iff_ne.mpr c2
    simp only [Option.some.injEq, Prod.mk.injEq] at H
    obtain ⟨rfl, rfl⟩ := H
    go_enter Try.func38, Try.ntmps38
    go_wp2_with (first | ((with_reducible refine gate_dst (N := 1) rfl ?_); refine box_event ?hg (N := 1) ?hd (cs := #[.int .i64 a0_0, .int .i64 a0_1, .int .i64 a0_2, .int .i64 a0_3, .int .i64 a0_4, .int .i64 a0_5, .int .u32 a0_6, .int .u32 a0_7, .int .u32 a0_8, .int .u64 a0_9, .int .u64 a0_10, .int .u64 a0_11, .int .u64 a0_12]) (t := 31) ?hr ?_; (case hd => rfl); (case hg => rfl); (case hr => first | (go_simp; done) | (go_simp; rfl)); intro gb162 hg w17 hbox hb; have n0_ := Aside0.mk (below_step (by repeat (first | (with_reducible first | exact HB.out | apply below_alloc | apply pw_below_drewN | apply below_drew1) | exact HB.out)) hb); have n1_ := Aside0.mk (hbox); have n2_ := Aside0.mk ((by rw [hg]; exact (below_size (by repeat (first | (with_reducible first | exact HB.out | apply below_alloc | apply pw_below_drewN | apply below_drew1) | exact HB.out))) : w.heap.size ≤ gb162)); have n3_ := Aside0.mk ((by rw [hg]; exact (below_size (by repeat (first | (with_reducible first | exact HB.out | apply below_alloc | apply pw_below_drewN | apply below_drew1) | exact HB.out))) : w.heap.size ≤ gb162)); clear HB; have HB := n0_; have BK162 := n1_; have GW162 := n2_; have GE162 := n3_; clear n0_ n1_ n2_ n3_; clear hb hbox hg; have hcz18_0 : w17.cell? ⟨gb162, 0, none⟩ = some (.int .i64 a0_0) := (blk_cell BK162.out 0).trans rfl; have hcz18_1 : w17.cell? ⟨gb162, 1, none⟩ = some (.int .i64 a0_1) := (blk_cell BK162.out 1).trans rfl; have hcz18_2 : w17.cell? ⟨gb162, 2, none⟩ = some (.int .i64 a0_2) := (blk_cell BK162.out 2).trans rfl; have hcz18_3 : w17.cell? ⟨gb162, 3, none⟩ = some (.int .i64 a0_3) := (blk_cell BK162.out 3).trans rfl; have hcz18_4 : w17.cell? ⟨gb162, 4, none⟩ = some (.int .i64 a0_4) := (blk_cell BK162.out 4).trans rfl; have hcz18_5 : w17.cell? ⟨gb162, 5, none⟩ = some (.int .i64 a0_5) := (blk_cell BK162.out 5).trans rfl; have hcz18_6 : w17.cell? ⟨gb162, 6, none⟩ = some (.int .u32 a0_6) := (blk_cell BK162.out 6).trans rfl; have hcz18_7 : w17.cell? ⟨gb162, 7, none⟩ = some (.int .u32 a0_7) := (blk_cell BK162.out 7).trans rfl; have hcz18_8 : w17.cell? ⟨gb162, 8, none⟩ = some (.int .u32 a0_8) := (blk_cell BK162.out 8).trans rfl; have hcz18_9 : w17.cell? ⟨gb162, 9, none⟩ = some (.int .u64 a0_9) := (blk_cell BK162.out 9).trans rfl; have hcz18_10 : w17.cell? ⟨gb162, 10, none⟩ = some (.int .u64 a0_10) := (blk_cell BK162.out 10).trans rfl; have hcz18_11 : w17.cell? ⟨gb162, 11, none⟩ = some (.int .u64 a0_11) := (blk_cell BK162.out 11).trans rfl; have hcz18_12 : w17.cell? ⟨gb162, 12, none⟩ = some (.int .u64 a0_12) := (blk_cell BK162.out 12).trans rfl; have hfz18_0 := blk_frozen BK162.out 0; have hfz18_1 := blk_frozen BK162.out 1; have hfz18_2 := blk_frozen BK162.out 2; have hfz18_3 := blk_frozen BK162.out 3; have hfz18_4 := blk_frozen BK162.out 4; have hfz18_5 := blk_frozen BK162.out 5; have hfz18_6 := blk_frozen BK162.out 6; have hfz18_7 := blk_frozen BK162.out 7; have hfz18_8 := blk_frozen BK162.out 8; have hfz18_9 := blk_frozen BK162.out 9; have hfz18_10 := blk_frozen BK162.out 10; have hfz18_11 := blk_frozen BK162.out 11; have hfz18_12 := blk_frozen BK162.out 12))
    go_ret2
    exact ⟨by first | rfl | (simp [errW_none, errW_some] <;> rfl) | (simp [*, errW_none, errW_some] <;> rfl), by repeat (first | (with_reducible first | exact HB.out | apply below_alloc | apply pw_below_drewN | apply below_drew1 | refine below_set ?_ GE162.out) | exact HB.out)⟩

/-! ### timesyncref19_Synced: function 39 -/
def timesyncref19_Synced.f (a0_0 : Int) (a0_1 : Int) (a0_2 : Int) (a0_3 : Int) (a0_4 : Int) (a0_5 : Int) (a0_6 : Int) (a0_7 : Int) (a0_8 : Int) (a0_9 : Int) (a0_10 : Int) (a0_11 : Int) (a0_12 : Int) : Option (Bool) := if a0_0 = 3 then (some false) else (if a0_3 ≥ 1 then (some (decide (a0_3 ≤ 15))) else (some false))
set_option maxHeartbeats 8000000 in
set_option maxRecDepth 100000 in
theorem timesyncref19_Synced.calls (a0_0 : Int) (a0_1 : Int) (a0_2 : Int) (a0_3 : Int) (a0_4 : Int) (a0_5 : Int) (a0_6 : Int) (a0_7 : Int) (a0_8 : Int) (a0_9 : Int) (a0_10 : Int) (a0_11 : Int) (a0_12 : Int) (r : Bool) (w : World) (h : timesyncref19_Synced.f a0_0 a0_1 a0_2 a0_3 a0_4 a0_5 a0_6 a0_7 a0_8 a0_9 a0_10 a0_11 a0_12 = some r) :
    Calls Try.prog 39 #[.agg #[.int .i64 a0_0, .int .i64 a0_1, .int .i64 a0_2, .int .i64 a0_3, .int .i64 a0_4, .int .i64 a0_5, .int .u32 a0_6, .int .u32 a0_7, .int .u32 a0_8, .int .u64 a0_9, .int .u64 a0_10, .int .u64 a0_11, .int .u64 a0_12]] w fun e w' => e = .returned (.bool r) ∧ Below w.heap.size w w' := by
  have hu31 := Try.underlying31
  have HB := Aside0.mk (Below.refl w.heap.size w)
  have H : (if a0_0 = 3 then (some false) else (if a0_3 ≥ 1 then (some (decide (a0_3 ≤ 15))) else (some false))) = some r := h
  clear h
  by_cases c2 : a0_0 = 3
  · rw [if_pos c2] at H
    have c2b0 : (a0_0 == 3) = true := beq_iff_eq.mpr c2
    have c2b1 : (a0_0 != 3) = false := bne_eq_false_iff_eq.mpr c2
    clear c2
    obtain rfl := Option.some.inj H
    go_enter Try.func39, Try.ntmps39
    go_wp2_with (first | ((with_reducible refine gate_dst (N := 1) rfl ?_); refine box_event ?hg (N := 1) ?hd (cs := #[.int .i64 a0_0, .int .i64 a0_1, .int .i64 a0_2, .int .i64 a0_3, .int .i64 a0_4, .int .i64 a0_5, .int .u32 a0_6, .int .u32 a0_7, .int .u32 a0_8, .int .u64 a0_9, .int .u64 a0_10, .int .u64 a0_11, .int .u64 a0_12]) (t := 31) ?hr ?_; (case hd => rfl); (case hg => rfl); (case hr => first | (go_simp; done) | (go_simp; rfl)); intro gb166 hg w3 hbox hb; have n0_ := Aside0.mk (below_step (by repeat (first | (with_reducible first | exact HB.out | apply below_alloc | apply pw_below_drewN | apply below_drew1) | exact HB.out)) hb); have n1_ := Aside0.mk (hbox); have n2_ := Aside0.mk ((by rw [hg]; exact (below_size (by repeat (first | (with_reducible first | exact HB.out | apply below_alloc | apply pw_below_drewN | apply below_drew1) | exact HB.out))) : w.heap.size ≤ gb166)); have n3_ := Aside0.mk ((by rw [hg]; exact (below_size (by repeat (first | (with_reducible first | exact HB.out | apply below_alloc | apply pw_below_drewN | apply below_drew1) | exact HB.out))) : w.heap.size ≤ gb166)); clear HB; have HB := n0_; have BK166 := n1_; have GW166 := n2_; have GE166 := n3_; clear n0_ n1_ n2_ n3_; clear hb hbox hg; have hcz4_0 : w3.cell? ⟨gb166, 0, none⟩ = some (.int .i64 a0_0) := (blk_cell BK166.out 0).trans rfl; have hcz4_1 : w3.cell? ⟨gb166, 1, none⟩ = some (.int .i64 a0_1) := (blk_cell BK166.out 1).trans rfl; have hcz4_2 : w3.cell? ⟨gb166, 2, none⟩ = some (.int .i64 a0_2) := (blk_cell BK166.out 2).trans rfl; have hcz4_3 : w3.cell? ⟨gb166, 3, none⟩ = some (.int .i64 a0_3) := (blk_cell BK166.out 3).trans rfl; have hcz4_4 : w3.cell? ⟨gb166, 4, none⟩ = some (.int .i64 a0_4) := (blk_cell BK166.out 4).trans rfl; have hcz4_5 : w3.cell? ⟨gb166, 5, none⟩ = some (.int .i64 a0_5) := (blk_cell BK166.out 5).trans rfl; have hcz4_6 : w3.cell? ⟨gb166, 6, none⟩ = some (.int .u32 a0_6) := (blk_cell BK166.out 6).trans rfl; have hcz4_7 : w3.cell? ⟨gb166, 7, none⟩ = some (.int .u32 a0_7) := (blk_cell BK166.out 7).trans rfl; have hcz4_8 : w3.cell? ⟨gb166, 8, none⟩ = some (.int .u32 a0_8) := (blk_cell BK166.out 8).trans rfl; have hcz4_9 : w3.cell? ⟨gb166, 9, none⟩ = some (.int .u64 a0_9) := (blk_cell BK166.out 9).trans rfl; have hcz4_10 : w3.cell? ⟨gb166, 10, none⟩ = some (.int .u64 a0_10) := (blk_cell BK166.out 10).trans rfl; have hcz4_11 : w3.cell? ⟨gb166, 11, none⟩ = some (.int .u64 a0_11) := (blk_cell BK166.out 11).trans rfl; have hcz4_12 : w3.cell? ⟨gb166, 12, none⟩ = some (.int .u64 a0_12) := (blk_cell BK166.out 12).trans rfl; have hfz4_0 := blk_frozen BK166.out 0; have hfz4_1 := blk_frozen BK166.out 1; have hfz4_2 := blk_frozen BK166.out 2; have hfz4_3 := blk_frozen BK166.out 3; have hfz4_4 := blk_frozen BK166.out 4; have hfz4_5 := blk_frozen BK166.out 5; have hfz4_6 := blk_frozen BK166.out 6; have hfz4_7 := blk_frozen BK166.out 7; have hfz4_8 := blk_frozen BK166.out 8; have hfz4_9 := blk_frozen BK166.out 9; have hfz4_10 := blk_frozen BK166.out 10; have hfz4_11 := blk_frozen BK166.out 11; have hfz4_12 := blk_frozen BK166.out 12))
    go_ret
    exact ⟨by first | rfl | (simp [errW_none, errW_some] <;> rfl) | (simp [*, errW_none, errW_some] <;> rfl), by repeat (first | (with_reducible first | exact HB.out | apply below_alloc | apply pw_below_drewN | apply below_drew1 | refine below_set ?_ GE166.out) | exact HB.out)⟩
  · rw [if_neg c2] at H
    have c2b0 : (a0_0 == 3) = false := beq_eq_false_iff_ne.mpr c2
    have c2b1 : (a0_0 != 3) = true := bne_iff_ne.mpr c2
    by_cases c5 : a0_3 ≥ 1
    · rw [if_pos c5] at H
      have c5b0 : decide (1 ≤ a0_3) = true := decide_eq_true c5
      clear c5
      obtain rfl := Option.some.inj H
      go_enter Try.func39, Try.ntmps39
      go_wp2_with (first | ((with_reducible refine gate_dst (N := 1) rfl ?_); refine box_event ?hg (N := 1) ?hd (cs := #[.int .i64 a0_0, .int .i64 a0_1, .int .i64 a0_2, .int .i64 a0_3, .int .i64 a0_4, .int .i64 a0_5, .int .u32 a0_6, .int .u32 a0_7, .int .u32 a0_8, .int .u64 a0_9, .int .u64 a0_10, .int .u64 a0_11, .int .u64 a0_12]) (t := 31) ?hr ?_; (case hd => rfl); (case hg => rfl); (case hr => first | (go_simp; done) | (go_simp; rfl)); intro gb166 hg w6 hbox hb; have n0_ := Aside0.mk (below_step (by repeat (first | (with_reducible first | exact HB.out | apply below_alloc | apply pw_below_drewN | apply below_drew1) | exact HB.out)) hb); have n1_ := Aside0.mk (hbox); have n2_ := Aside0.mk ((by rw [hg]; exact (below_size (by repeat (first | (with_reducible first | exact HB.out | apply below_alloc | apply pw_below_drewN | apply below_drew1) | exact HB.out))) : w.heap.size ≤ gb166)); have n3_ := Aside0.mk ((by rw [hg]; exact (below_size (by repeat (first | (with_reducible first | exact HB.out | apply below_alloc | apply pw_below_drewN | apply below_drew1) | exact HB.out))) : w.heap.size ≤ gb166)); clear HB; have HB := n0_; have BK166 := n1_; have GW166 := n2_; have GE166 := n3_; clear n0_ n1_ n2_ n3_; clear hb hbox hg; have hcz7_0 : w6.cell? ⟨gb166, 0, none⟩ = some (.int .i64 a0_0) := (blk_cell BK166.out 0).trans rfl; have hcz7_1 : w6.cell? ⟨gb166, 1, none⟩ = some (.int .i64 a0_1) := (blk_cell BK166.out 1).trans rfl; have hcz7_2 : w6.cell? ⟨gb166, 2, none⟩ = some (.int .i64 a0_2) := (blk_cell BK166.out 2).trans rfl; have hcz7_3 : w6.cell? ⟨gb166, 3, none⟩ = some (.int .i64 a0_3) := (blk_cell BK166.out 3).trans rfl; have hcz7_4 : w6.cell? ⟨gb166, 4, none⟩ = some (.int .i64 a0_4) := (blk_cell BK166.out 4).trans rfl; have hcz7_5 : w6.cell? ⟨gb166, 5, none⟩ = some (.int .i64 a0_5) := (blk_cell BK166.out 5).trans rfl; have hcz7_6 : w6.cell? ⟨gb166, 6, none⟩ = some (.int .u32 a0_6) := (blk_cell BK166.out 6).trans rfl; have hcz7_7 : w6.cell? ⟨gb166, 7, none⟩ = some (.int .u32 a0_7) := (blk_cell BK166.out 7).trans rfl; have hcz7_8 : w6.cell? ⟨gb166, 8, none⟩ = some (.int .u32 a0_8) := (blk_cell BK166.out 8).trans rfl; have hcz7_9 : w6.cell? ⟨gb166, 9, none⟩ = some (.int .u64 a0_9) := (blk_cell BK166.out 9).trans rfl; have hcz7_10 : w6.cell? ⟨gb166, 10, none⟩ = some (.int .u64 a0_10) := (blk_cell BK166.out 10).trans rfl; have hcz7_11 : w6.cell? ⟨gb166, 11, none⟩ = some (.int .u64 a0_11) := (blk_cell BK166.out 11).trans rfl; have hcz7_12 : w6.cell? ⟨gb166, 12, none⟩ = some (.int .u64 a0_12) := (blk_cell BK166.out 12).trans rfl; have hfz7_0 := blk_frozen BK166.out 0; have hfz7_1 := blk_frozen BK166.out 1; have hfz7_2 := blk_frozen BK166.out 2; have hfz7_3 := blk_frozen BK166.out 3; have hfz7_4 := blk_frozen BK166.out 4; have hfz7_5 := blk_frozen BK166.out 5; have hfz7_6 := blk_frozen BK166.out 6; have hfz7_7 := blk_frozen BK166.out 7; have hfz7_8 := blk_frozen BK166.out 8; have hfz7_9 := blk_frozen BK166.out 9; have hfz7_10 := blk_frozen BK166.out 10; have hfz7_11 := blk_frozen BK166.out 11; have hfz7_12 := blk_frozen BK166.out 12))
      go_ret
      exact ⟨by first | rfl | (simp [errW_none, errW_some] <;> rfl) | (simp [*, errW_none, errW_some] <;> rfl), by repeat (first | (with_reducible first | exact HB.out | apply below_alloc | apply pw_below_drewN | apply below_drew1 | refine below_set ?_ GE166.out) | exact HB.out)⟩
    · rw [if_neg c5] at H
      have c5b0 : decide (1 ≤ a0_3) = false := decide_eq_false c5
      clear c5
      obtain rfl := Option.some.inj H
      go_enter Try.func39, Try.ntmps39
      go_wp2_with (first | ((with_reducible refine gate_dst (N := 1) rfl ?_); refine box_event ?hg (N := 1) ?hd (cs := #[.int .i64 a0_0, .int .i64 a0_1, .int .i64 a0_2, .int .i64 a0_3, .int .i64 a0_4, .int .i64 a0_5, .int .u32 a0_6, .int .u32 a0_7, .int .u32 a0_8, .int .u64 a0_9, .int .u64 a0_10, .int .u64 a0_11, .int .u64 a0_12]) (t := 31) ?hr ?_; (case hd => rfl); (case hg => rfl); (case hr => first | (go_simp; done) | (go_simp; rfl)); intro gb166 hg w8 hbox hb; have n0_ := Aside0.mk (below_step (by repeat (first | (with_reducible first | exact HB.out | apply below_alloc | apply pw_below_drewN | apply below_drew1) | exact HB.out)) hb); have n1_ := Aside0.mk (hbox); have n2_ := Aside0.mk ((by rw [hg]; exact (below_size (by repeat (first | (with_reducible first | exact HB.out | apply below_alloc | apply pw_below_drewN | apply below_drew1) | exact HB.out))) : w.heap.size ≤ gb166)); have n3_ := Aside0.mk ((by rw [hg]; exact (below_size (by repeat (first | (with_reducible first | exact HB.out | apply below_alloc | apply pw_below_drewN | apply below_drew1) | exact HB.out))) : w.heap.size ≤ gb166)); clear HB; have HB := n0_; have BK166 := n1_; have GW166 := n2_; have GE166 := n3_; clear n0_ n1_ n2_ n3_; clear hb hbox hg; have hcz9_0 : w8.cell? ⟨gb166, 0, none⟩ = some (.int .i64 a0_0) := (blk_cell BK166.out 0).trans rfl; have hcz9_1 : w8.cell? ⟨gb166, 1, none⟩ = some (.int .i64 a0_1) := (blk_cell BK166.out 1).trans rfl; have hcz9_2 : w8.cell? ⟨gb166, 2, none⟩ = some (.int .i64 a0_2) := (blk_cell BK166.out 2).trans rfl; have hcz9_3 : w8.cell? ⟨gb166, 3, none⟩ = some (.int .i64 a0_3) := (blk_cell BK166.out 3).trans rfl; have hcz9_4 : w8.cell? ⟨gb166, 4, none⟩ = some (.int .i64 a0_4) := (blk_cell BK166.out 4).trans rfl; have hcz9_5 : w8.cell? ⟨gb166, 5, none⟩ = some (.int .i64 a0_5) := (blk_cell BK166.out 5).trans rfl; have hcz9_6 : w8.cell? ⟨gb166, 6, none⟩ = some (.int .u32 a0_6) := (blk_cell BK166.out 6).trans rfl; have hcz9_7 : w8.cell? ⟨gb166, 7, none⟩ = some (.int .u32 a0_7) := (blk_cell BK166.out 7).trans rfl; have hcz9_8 : w8.cell? ⟨gb166, 8, none⟩ = some (.int .u32 a0_8) := (blk_cell BK166.out 8).trans rfl; have hcz9_9 : w8.cell? ⟨gb166, 9, none⟩ = some (.int .u64 a0_9) := (blk_cell BK166.out 9).trans rfl; have hcz9_10 : w8.cell? ⟨gb166, 10, none⟩ = some (.int .u64 a0_10) := (blk_cell BK166.out 10).trans rfl; have hcz9_11 : w8.cell? ⟨gb166, 11, none⟩ = some (.int .u64 a0_11) := (blk_cell BK166.out 11).trans rfl; have hcz9_12 : w8.cell? ⟨gb166, 12, none⟩ = some (.int .u64 a0_12) := (blk_cell BK166.out 12).trans rfl; have hfz9_0 := blk_frozen BK166.out 0; have hfz9_1 := blk_frozen BK166.out 1; have hfz9_2 := blk_frozen BK166.out 2; have hfz9_3 := blk_frozen BK166.out 3; have hfz9_4 := blk_frozen BK166.out 4; have hfz9_5 := blk_frozen BK166.out 5; have hfz9_6 := blk_frozen BK166.out 6; have hfz9_7 := blk_frozen BK166.out 7; have hfz9_8 := blk_frozen BK166.out 8; have hfz9_9 := blk_frozen BK166.out 9; have hfz9_10 := blk_frozen BK166.out 10; have hfz9_11 := blk_frozen BK166.out 11; have hfz9_12 := blk_frozen BK166.out 12))
      go_ret
      exact ⟨by first | rfl | (simp [errW_none, errW_some] <;> rfl) | (simp [*, errW_none, errW_some] <;> rfl), by repeat (first | (with_reducible first | exact HB.out | apply below_alloc | apply pw_below_drewN | apply below_drew1 | refine below_set ?_ GE166.out) | exact HB.out)⟩

/-! ### timesyncref03_Diff: function 52 -/
def timesyncref03_Diff.f (a0 : Int) (a1 : Int) : Option (Int) := some (wrap64 (IntKind.u64.wrap (a0 - a1)))
set_option maxHeartbeats 8000000 in
set_option maxRecDepth 100000 in
theorem timesyncref03_Diff.calls (a0 : Int) (a1 : Int) (r : Int) (w : World) (h : timesyncref03_Diff.f a0 a1 = some r) :
    Calls Try.prog 52 #[.int .u64 a0, .int .u64 a1] w fun e w' => e = .returned (.int .i64 r) ∧ Drawn0 w w' := by
  have H : (some (wrap64 (IntKind.u64.wrap (a0 - a1)))) = some r := h
  clear h
  obtain rfl := Option.some.inj H
  go_enter Try.func52, Try.ntmps52
  go_wp2
  go_ret
  exact ⟨by first | rfl | (simp; done) | (simp [*]; done), by repeat (first | exact Drawn0.refl _ | apply Drawn0.step)⟩

/-! ### timesyncref03_above: function 53 -/
def timesyncref03_above.f (a0 : Int) : Option (Int) := some (wrap64 (Int.tdiv (wrap64 ((wrap64 (a0 * 1000000000)) + 4294967295)) 4294967296))
set_option maxHeartbeats 8000000 in
set_option maxRecDepth 100000 in
theorem timesyncref03_above.calls (a0 : Int) (r : Int) (w : World) (h : timesyncref03_above.f a0 = some r) :
    Calls Try.prog 53 #[.int .i64 a0] w fun e w' => e = .returned (.int .i64 r) ∧ Drawn0 w w' := by
  have H : (some (wrap64 (Int.tdiv (wrap64 ((wrap64 (a0 * 1000000000)) + 4294967295)) 4294967296))) = some r := h
  clear h
  obtain rfl := Option.some.inj H
  go_enter Try.func53, Try.ntmps53
  go_wp2
  go_ret
  exact ⟨by first | rfl | (simp; done) | (simp [*]; done), by repeat (first | exact Drawn0.refl _ | apply Drawn0.step)⟩

/-! ### timesyncref03_Time: function 46 -/
mutual
def timesyncref03_Time.j0 : Nat → Int → Int → Bool → Option (Int × Int)
  | 0, _, _, _ => none
  | k + 1, x0, x1, x19 => if x19 = true then (some (0, 2)) else ((timesyncref03_split.f x1).bind fun bt167 => ((timesyncref03_Of.f x1).bind fun t169 => ((timesyncref03_Diff.f x0 t169).bind fun t170 => (if (wrap64 ((wrap64 (bt167.1 + (t170 / 4294967296))) + ((wrap64 ((wrap64 (Int.tdiv (wrap64 (bt167.2 * 4294967296)) 1000000000)) + (Go.bits .and .i64 t170 4294967295))) / 4294967296))) > 8000000000 then (timesyncref03_Time.j1 k (Go.bits .and .i64 (wrap64 ((wrap64 (Int.tdiv (wrap64 (bt167.2 * 4294967296)) 1000000000)) + (Go.bits .and .i64 t170 4294967295))) 4294967295) (wrap64 ((wrap64 (bt167.1 + (t170 / 4294967296))) + ((wrap64 ((wrap64 (Int.tdiv (wrap64 (bt167.2 * 4294967296)) 1000000000)) + (Go.bits .and .i64 t170 4294967295))) / 4294967296))) true) else (timesyncref03_Time.j1 k (Go.bits .and .i64 (wrap64 ((wrap64 (Int.tdiv (wrap64 (bt167.2 * 4294967296)) 1000000000)) + (Go.bits .and .i64 t170 4294967295))) 4294967295) (wrap64 ((wrap64 (bt167.1 + (t170 / 4294967296))) + ((wrap64 ((wrap64 (Int.tdiv (wrap64 (bt167.2 * 4294967296)) 1000000000)) + (Go.bits .and .i64 t170 4294967295))) / 4294967296))) (decide ((wrap64 ((wrap64 (bt167.1 + (t170 / 4294967296))) + ((wrap64 ((wrap64 (Int.tdiv (wrap64 (bt167.2 * 4294967296)) 1000000000)) + (Go.bits .and .i64 t170 4294967295))) / 4294967296))) < ((-8000000000) - 1))))))))
def timesyncref03_Time.j1 : Nat → Int → Int → Bool → Option (Int × Int)
  | 0, _, _, _ => none
  | k + 1, x10, x11, x54 => if x54 = true then (some (0, 3)) else ((timesyncref03_above.f x10).bind fun t171 => (if (wrap64 ((wrap64 (x11 * 1000000000)) + t171)) < (-8000000000000000000) then (some (0, 3)) else (if (wrap64 ((wrap64 (x11 * 1000000000)) + t171)) > 8000000000000000000 then (some (0, 3)) else (some (wrap64 ((wrap64 (x11 * 1000000000)) + t171), 0)))))
end
def timesyncref03_Time.f (k : Nat) (a0 : Int) (a1 : Int) : Option (Int × Int) := if a1 < (-8000000000000000000) then (timesyncref03_Time.j0 k a0 a1 true) else (timesyncref03_Time.j0 k a0 a1 (decide (a1 > 8000000000000000000)))
theorem timesyncref03_Time.mono_l : ∀ k, (∀ y0 y1 y2, LeO (timesyncref03_Time.j0 k y0 y1 y2) (timesyncref03_Time.j0 (k + 1) y0 y1 y2)) ∧ (∀ y0 y1 y2, LeO (timesyncref03_Time.j1 k y0 y1 y2) (timesyncref03_Time.j1 (k + 1) y0 y1 y2))
  | 0 => ⟨fun _ _ _ r h => by simp [timesyncref03_Time.j0] at h, fun _ _ _ r h => by simp [timesyncref03_Time.j1] at h⟩
  | k + 1 => by
    obtain ⟨ih0, ih1⟩ := timesyncref03_Time.mono_l k
    refine ⟨?_, ?_⟩
    · intro y0 y1 y2
      unfold timesyncref03_Time.j0
      repeat' first
      | (with_reducible exact ih0 _ _ _)
      | (with_reducible exact ih1 _ _ _)
      | (with_reducible exact LeO.refl _)
      | (with_reducible exact LeO.none _)
      | (with_reducible refine LeO.ite ?_ ?_)
      | (with_reducible refine LeO.bind ?_ (fun _ => ?_))
      | exact ih0 _ _ _
      | exact ih1 _ _ _
      | exact LeO.none _
      | refine LeO.ite ?_ ?_
      | refine LeO.bind ?_ (fun _ => ?_)
    · intro y0 y1 y2
      unfold timesyncref03_Time.j1
      repeat' first
      | (with_reducible exact ih0 _ _ _)
      | (with_reducible exact ih1 _ _ _)
      | (with_reducible exact LeO.refl _)
      | (with_reducible exact LeO.none _)
      | (with_reducible refine LeO.ite ?_ ?_)
      | (with_reducible refine LeO.bind ?_ (fun _ => ?_))
      | exact ih0 _ _ _
      | exact ih1 _ _ _
      | exact LeO.none _
      | refine LeO.ite ?_ ?_
      | refine LeO.bind ?_ (fun _ => ?_)
theorem timesyncref03_Time.mono : ∀ a0 a1 k, LeO (timesyncref03_Time.f k a0 a1) (timesyncref03_Time.f (k + 1) a0 a1) := by
  intro a0 a1 k
  obtain ⟨ih0, ih1⟩ := timesyncref03_Time.mono_l k
  unfold timesyncref03_Time.f
  repeat' first
      | (with_reducible exact ih0 _ _ _)
      | (with_reducible exact ih1 _ _ _)
      | (with_reducible exact LeO.refl _)
      | (with_reducible exact LeO.none _)
      | (with_reducible refine LeO.ite ?_ ?_)
      | (with_reducible refine LeO.bind ?_ (fun _ => ?_))
      | exact ih0 _ _ _
      | exact ih1 _ _ _
      | exact LeO.none _
      | refine LeO.ite ?_ ?_
      | refine LeO.bind ?_ (fun _ => ?_)
set_option maxHeartbeats 8000000 in
set_option maxRecDepth 100000 in
theorem timesyncref03_Time.calls (k : Nat) (a0 : Int) (a1 : Int) (r1 : Int) (r2 : Int) (w : World) (h : timesyncref03_Time.f k a0 a1 = some (r1, r2)) :
    Calls Try.prog 46 #[.int .u64 a0, .int .i64 a1] w fun e w' => e = .returned (.tuple #[.int .i64 r1, .int .i64 r2]) ∧ Drawn0 w w' := by
  have H : (if a1 < (-8000000000000000000) then (timesyncref03_Time.j0 k a0 a1 true) else (timesyncref03_Time.j0 k a0 a1 (decide (a1 > 8000000000000000000)))) = some (r1, r2) := h
  clear h
  have HC3 := Aside0.mk H
  clear H
  go_enter Try.func46, Try.ntmps46
  go_upto_region 1 with (fail)
  go_cut [19] (fun v19 wc => ∃ (kq : Nat) (x19_2 : Bool), v19 = .bool x19_2 ∧ Aside0 (timesyncref03_Time.j0 kq a0 a1 x19_2 = some (r1, r2)) ∧ Aside0 (kq ≤ k) ∧ Drawn0 w wc)
  case first =>
    have H := HC3.out
    clear HC3
    by_cases c4 : a1 < (-8000000000000000000)
    · rw [if_pos c4] at H
      have c4b0 : decide (a1 < (-8000000000000000000)) = true := decide_eq_true c4
      clear c4
      (first | rw [c4b0] | (simp only [i64_w, i32_w]; rw [c4b0]) | skip)
      have H' := Aside0.mk H
      clear H
      go_wp2
      go_meet
      case rel => exact ⟨_, (true), (by first | rfl | (simp; done) | (simp [*]; done)), H', ⟨by first | omega | exact Nat.le_refl _⟩, by repeat (first | exact Drawn0.refl _ | apply Drawn0.step)⟩
    · rw [if_neg c4] at H
      have c4b0 : decide (a1 < (-8000000000000000000)) = false := decide_eq_false c4
      clear c4
      (first | rw [c4b0] | (simp only [i64_w, i32_w]; rw [c4b0]) | skip)
      have H' := Aside0.mk H
      clear H
      go_wp2
      go_meet
      case rel => exact ⟨_, (decide (a1 > 8000000000000000000)), (by first | rfl | (simp; done) | (simp [*]; done)), H', ⟨by first | omega | exact Nat.le_refl _⟩, by repeat (first | exact Drawn0.refl _ | apply Drawn0.step)⟩
  case rest =>
    clear HC3
    try clear p2
    try clear c4
    try clear c4b0
    obtain ⟨kq, x19_2, rfl, HA, HJ2, ⟨mc2, rfl⟩⟩ := hcut
    cases kq with
    | zero => exact absurd HA.out (by simp [timesyncref03_Time.j0])
    | succ kj2 =>
      have H := HA.out
      clear HA
      simp only [timesyncref03_Time.j0] at H
      by_cases c5 : x19_2 = true
      · subst c5
        have H1 : (some (0, 2)) = some (r1, r2) := by rw [if_pos rfl] at H; exact H
        clear H
        have H := H1
        clear H1
        simp only [Option.some.injEq, Prod.mk.injEq] at H
        obtain ⟨rfl, rfl⟩ := H
        go_wp2
        go_ret2
        exact ⟨by first | rfl | (simp; done) | (simp [*]; done), by repeat (first | exact Drawn0.refl _ | apply Drawn0.step)⟩
      · replace c5 := Bool.eq_false_iff.mpr c5
        subst c5
        have H1 : ((timesyncref03_split.f a1).bind fun bt167 => ((timesyncref03_Of.f a1).bind fun t169 => ((timesyncref03_Diff.f a0 t169).bind fun t170 => (if (wrap64 ((wrap64 (bt167.1 + (t170 / 4294967296))) + ((wrap64 ((wrap64 (Int.tdiv (wrap64 (bt167.2 * 4294967296)) 1000000000)) + (Go.bits .and .i64 t170 4294967295))) / 4294967296))) > 8000000000 then (timesyncref03_Time.j1 kj2 (Go.bits .and .i64 (wrap64 ((wrap64 (Int.tdiv (wrap64 (bt167.2 * 4294967296)) 1000000000)) + (Go.bits .and .i64 t170 4294967295))) 4294967295) (wrap64 ((wrap64 (bt167.1 + (t170 / 4294967296))) + ((wrap64 ((wrap64 (Int.tdiv (wrap64 (bt167.2 * 4294967296)) 1000000000)) + (Go.bits .and .i64 t170 4294967295))) / 4294967296))) true) else (timesyncref03_Time.j1 kj2 (Go.bits .and .i64 (wrap64 ((wrap64 (Int.tdiv (wrap64 (bt167.2 * 4294967296)) 1000000000)) + (Go.bits .and .i64 t170 4294967295))) 4294967295) (wrap64 ((wrap64 (bt167.1 + (t170 / 4294967296))) + ((wrap64 ((wrap64 (Int.tdiv (wrap64 (bt167.2 * 4294967296)) 1000000000)) + (Go.bits .and .i64 t170 4294967295))) / 4294967296))) (decide ((wrap64 ((wrap64 (bt167.1 + (t170 / 4294967296))) + ((wrap64 ((wrap64 (Int.tdiv (wrap64 (bt167.2 * 4294967296)) 1000000000)) + (Go.bits .and .i64 t170 4294967295))) / 4294967296))) < ((-8000000000) - 1)))))))) = some (r1, r2) := by rw [if_neg (show ¬ (false = true) by decide)] at H; exact H
        clear H
        have H := H1
        clear H1
        replace H := Option.bind_eq_some_iff.mp H
        obtain ⟨⟨t167, t168⟩, A60, H⟩ := H
        replace H : ((timesyncref03_Of.f a1).bind fun t169 => ((timesyncref03_Diff.f a0 t169).bind fun t170 => (if (wrap64 ((wrap64 (t167 + (t170 / 4294967296))) + ((wrap64 ((wrap64 (Int.tdiv (wrap64 (t168 * 4294967296)) 1000000000)) + (Go.bits .and .i64 t170 4294967295))) / 4294967296))) > 8000000000 then (timesyncref03_Time.j1 kj2 (Go.bits .and .i64 (wrap64 ((wrap64 (Int.tdiv (wrap64 (t168 * 4294967296)) 1000000000)) + (Go.bits .and .i64 t170 4294967295))) 4294967295) (wrap64 ((wrap64 (t167 + (t170 / 4294967296))) + ((wrap64 ((wrap64 (Int.tdiv (wrap64 (t168 * 4294967296)) 1000000000)) + (Go.bits .and .i64 t170 4294967295))) / 4294967296))) true) else (timesyncref03_Time.j1 kj2 (Go.bits .and .i64 (wrap64 ((wrap64 (Int.tdiv (wrap64 (t168 * 4294967296)) 1000000000)) + (Go.bits .and .i64 t170 4294967295))) 4294967295) (wrap64 ((wrap64 (t167 + (t170 / 4294967296))) + ((wrap64 ((wrap64 (Int.tdiv (wrap64 (t168 * 4294967296)) 1000000000)) + (Go.bits .and .i64 t170 4294967295))) / 4294967296))) (decide ((wrap64 ((wrap64 (t167 + (t170 / 4294967296))) + ((wrap64 ((wrap64 (Int.tdiv (wrap64 (t168 * 4294967296)) 1000000000)) + (Go.bits .and .i64 t170 4294967295))) / 4294967296))) < ((-8000000000) - 1))))))) = some (r1, r2) := H
        have A6 := Aside0.mk A60
        clear A60
        replace H := Option.bind_eq_some_iff.mp H
        obtain ⟨t169, A70, H⟩ := H
        replace H : ((timesyncref03_Diff.f a0 t169).bind fun t170 => (if (wrap64 ((wrap64 (t167 + (t170 / 4294967296))) + ((wrap64 ((wrap64 (Int.tdiv (wrap64 (t168 * 4294967296)) 1000000000)) + (Go.bits .and .i64 t170 4294967295))) / 4294967296))) > 8000000000 then (timesyncref03_Time.j1 kj2 (Go.bits .and .i64 (wrap64 ((wrap64 (Int.tdiv (wrap64 (t168 * 4294967296)) 1000000000)) + (Go.bits .and .i64 t170 4294967295))) 4294967295) (wrap64 ((wrap64 (t167 + (t170 / 4294967296))) + ((wrap64 ((wrap64 (Int.tdiv (wrap64 (t168 * 4294967296)) 1000000000)) + (Go.bits .and .i64 t170 4294967295))) / 4294967296))) true) else (timesyncref03_Time.j1 kj2 (Go.bits .and .i64 (wrap64 ((wrap64 (Int.tdiv (wrap64 (t168 * 4294967296)) 1000000000)) + (Go.bits .and .i64 t170 4294967295))) 4294967295) (wrap64 ((wrap64 (t167 + (t170 / 4294967296))) + ((wrap64 ((wrap64 (Int.tdiv (wrap64 (t168 * 4294967296)) 1000000000)) + (Go.bits .and .i64 t170 4294967295))) / 4294967296))) (decide ((wrap64 ((wrap64 (t167 + (t170 / 4294967296))) + ((wrap64 ((wrap64 (Int.tdiv (wrap64 (t168 * 4294967296)) 1000000000)) + (Go.bits .and .i64 t170 4294967295))) / 4294967296))) < ((-8000000000) - 1)))))) = some (r1, r2) := H
        have A7 := Aside0.mk A70
        clear A70
        replace H := Option.bind_eq_some_iff.mp H
        obtain ⟨t170, A80, H⟩ := H
        replace H : (if (wrap64 ((wrap64 (t167 + (t170 / 4294967296))) + ((wrap64 ((wrap64 (Int.tdiv (wrap64 (t168 * 4294967296)) 1000000000)) + (Go.bits .and .i64 t170 4294967295))) / 4294967296))) > 8000000000 then (timesyncref03_Time.j1 kj2 (Go.bits .and .i64 (wrap64 ((wrap64 (Int.tdiv (wrap64 (t168 * 4294967296)) 1000000000)) + (Go.bits .and .i64 t170 4294967295))) 4294967295) (wrap64 ((wrap64 (t167 + (t170 / 4294967296))) + ((wrap64 ((wrap64 (Int.tdiv (wrap64 (t168 * 4294967296)) 1000000000)) + (Go.bits .and .i64 t170 4294967295))) / 4294967296))) true) else (timesyncref03_Time.j1 kj2 (Go.bits .and .i64 (wrap64 ((wrap64 (Int.tdiv (wrap64 (t168 * 4294967296)) 1000000000)) + (Go.bits .and .i64 t170 4294967295))) 4294967295) (wrap64 ((wrap64 (t167 + (t170 / 4294967296))) + ((wrap64 ((wrap64 (Int.tdiv (wrap64 (t168 * 4294967296)) 1000000000)) + (Go.bits .and .i64 t170 4294967295))) / 4294967296))) (decide ((wrap64 ((wrap64 (t167 + (t170 / 4294967296))) + ((wrap64 ((wrap64 (Int.tdiv (wrap64 (t168 * 4294967296)) 1000000000)) + (Go.bits .and .i64 t170 4294967295))) / 4294967296))) < ((-8000000000) - 1))))) = some (r1, r2) := H
        have A8 := Aside0.mk A80
        clear A80
        have HC9 := Aside0.mk H
        clear H
        go_upto_region 10 with (first | ((with_reducible refine gate_callee (f := 33) rfl ?_); refine goesL_ (some 22) rfl rfl Try.func33 (by kernel_rfl) rfl #[.int .i64 a1] rfl (by (try simp only [List.map_toArray, List.map_cons, List.map_nil]); first | done | rfl | (simp only [List.length_drop, List.length_take]; rfl)) ?_; (with_reducible refine (timesyncref03_split.calls a1 t167 t168 _ A6.out).mono ?_); rintro e w' ⟨rfl, ⟨nd, rfl⟩⟩; refine ⟨_, rfl, ?_⟩) | ((with_reducible refine gate_callee (f := 24) rfl ?_); refine goesL_ (some 30) rfl rfl Try.func24 (by kernel_rfl) rfl #[.int .i64 a1] rfl (by (try simp only [List.map_toArray, List.map_cons, List.map_nil]); first | done | rfl | (simp only [List.length_drop, List.length_take]; rfl)) ?_; (with_reducible refine (timesyncref03_Of.calls a1 t169 _ A7.out).mono ?_); rintro e w' ⟨rfl, ⟨nd, rfl⟩⟩; refine ⟨_, rfl, ?_⟩) | ((with_reducible refine gate_callee (f := 52) rfl ?_); refine goesL_ (some 31) rfl rfl Try.func52 (by kernel_rfl) rfl #[.int .u64 a0, .int .u64 t169] rfl (by (try simp only [List.map_toArray, List.map_cons, List.map_nil]); first | done | rfl | (simp only [List.length_drop, List.length_take]; rfl)) ?_; (with_reducible refine (timesyncref03_Diff.calls a0 t169 t170 _ A8.out).mono ?_); rintro e w' ⟨rfl, ⟨nd, rfl⟩⟩; refine ⟨_, rfl, ?_⟩))
        (try simp only [Act.put, List.setIfInBounds_toArray, List.set_cons_zero, List.set_cons_succ])
        go_cut [54] (fun v54 wc => ∃ (kq : Nat) (x54_8 : Bool), v54 = .bool x54_8 ∧ Aside0 (timesyncref03_Time.j1 kq (Go.bits .and .i64 (wrap64 ((wrap64 (Int.tdiv (wrap64 (t168 * 4294967296)) 1000000000)) + (Go.bits .and .i64 t170 4294967295))) 4294967295) (wrap64 ((wrap64 (t167 + (t170 / 4294967296))) + ((wrap64 ((wrap64 (Int.tdiv (wrap64 (t168 * 4294967296)) 1000000000)) + (Go.bits .and .i64 t170 4294967295))) / 4294967296))) x54_8 = some (r1, r2)) ∧ Aside0 (kq ≤ kj2) ∧ Drawn0 w wc)
        case first =>
          have H := HC9.out
          clear HC9
          by_cases c10 : (wrap64 ((wrap64 (t167 + (t170 / 4294967296))) + ((wrap64 ((wrap64 (Int.tdiv (wrap64 (t168 * 4294967296)) 1000000000)) + (Go.bits .and .i64 t170 4294967295))) / 4294967296))) > 8000000000
          · rw [if_pos c10] at H
            have c10b0 : decide (8000000000 < (wrap64 ((wrap64 (t167 + (t170 / 4294967296))) + ((wrap64 ((wrap64 (Int.tdiv (wrap64 (t168 * 4294967296)) 1000000000)) + (Go.bits .and .i64 t170 4294967295))) / 4294967296)))) = true := decide_eq_true c10
            clear c10
            (first | rw [c10b0] | (simp only [i64_w, i32_w]; rw [c10b0]) | skip)
            have H' := Aside0.mk H
            clear H
            go_wp2
            go_meet
            case rel => exact ⟨_, (true), (by first | rfl | (simp; done) | (simp [*]; done)), H', ⟨by have := HJ2.out; first | omega | exact Nat.le_refl _⟩, by repeat (first | exact Drawn0.refl _ | apply Drawn0.step)⟩
          · rw [if_neg c10] at H
            have c10b0 : decide (8000000000 < (wrap64 ((wrap64 (t167 + (t170 / 4294967296))) + ((wrap64 ((wrap64 (Int.tdiv (wrap64 (t168 * 4294967296)) 1000000000)) + (Go.bits .and .i64 t170 4294967295))) / 4294967296)))) = false := decide_eq_false c10
            clear c10
            (first | rw [c10b0] | (simp only [i64_w, i32_w]; rw [c10b0]) | skip)
            have H' := Aside0.mk H
            clear H
            go_wp2
            go_meet
            case rel => exact ⟨_, (decide ((wrap64 ((wrap64 (t167 + (t170 / 4294967296))) + ((wrap64 ((wrap64 (Int.tdiv (wrap64 (t168 * 4294967296)) 1000000000)) + (Go.bits .and .i64 t170 4294967295))) / 4294967296))) < ((-8000000000) - 1))), (by first | rfl | (simp; done) | (simp [*]; done)), H', ⟨by have := HJ2.out; first | omega | exact Nat.le_refl _⟩, by repeat (first | exact Drawn0.refl _ | apply Drawn0.step)⟩
        case rest =>
          clear HC9
          try clear c1
          try clear c2
          try clear p2
          try clear c3
          try clear c4
          try clear c4b0
          try clear c5
          try clear p6
          try clear c10
          try clear c10b0
          try clear p2
          obtain ⟨kq, x54_8, rfl, HA, HJ8, ⟨mc8, rfl⟩⟩ := hcut
          cases kq with
          | zero => exact absurd HA.out (by simp [timesyncref03_Time.j1])
          | succ kj8 =>
            have H := HA.out
            clear HA
            simp only [timesyncref03_Time.j1] at H
            by_cases c11 : x54_8 = true
            · subst c11
              have H1 : (some (0, 3)) = some (r1, r2) := by rw [if_pos rfl] at H; exact H
              clear H
              have H := H1
              clear H1
              simp only [Option.some.injEq, Prod.mk.injEq] at H
              obtain ⟨rfl, rfl⟩ := H
              go_wp2
              go_ret2
              exact ⟨by first | rfl | (simp; done) | (simp [*]; done), by repeat (first | exact Drawn0.refl _ | apply Drawn0.step)⟩
            · replace c11 := Bool.eq_false_iff.mpr c11
              subst c11
              have H1 : ((timesyncref03_above.f (Go.bits .and .i64 (wrap64 ((wrap64 (Int.tdiv (wrap64 (t168 * 4294967296)) 1000000000)) + (Go.bits .and .i64 t170 4294967295))) 4294967295)).bind fun t171 => (if (wrap64 ((wrap64 ((wrap64 ((wrap64 (t167 + (t170 / 4294967296))) + ((wrap64 ((wrap64 (Int.tdiv (wrap64 (t168 * 4294967296)) 1000000000)) + (Go.bits .and .i64 t170 4294967295))) / 4294967296))) * 1000000000)) + t171)) < (-8000000000000000000) then (some (0, 3)) else (if (wrap64 ((wrap64 ((wrap64 ((wrap64 (t167 + (t170 / 4294967296))) + ((wrap64 ((wrap64 (Int.tdiv (wrap64 (t168 * 4294967296)) 1000000000)) + (Go.bits .and .i64 t170 4294967295))) / 4294967296))) * 1000000000)) + t171)) > 8000000000000000000 then (some (0, 3)) else (some (wrap64 ((wrap64 ((wrap64 ((wrap64 (t167 + (t170 / 4294967296))) + ((wrap64 ((wrap64 (Int.tdiv (wrap64 (t168 * 4294967296)) 1000000000)) + (Go.bits .and .i64 t170 4294967295))) / 4294967296))) * 1000000000)) + t171), 0))))) = some (r1, r2) := by rw [if_neg (show ¬ (false = true) by decide)] at H; exact H
              clear H
              have H := H1
              clear H1
              replace H := Option.bind_eq_some_iff.mp H
              obtain ⟨t171, A120, H⟩ := H
              replace H : (if (wrap64 ((wrap64 ((wrap64 ((wrap64 (t167 + (t170 / 4294967296))) + ((wrap64 ((wrap64 (Int.tdiv (wrap64 (t168 * 4294967296)) 1000000000)) + (Go.bits .and .i64 t170 4294967295))) / 4294967296))) * 1000000000)) + t171)) < (-8000000000000000000) then (some (0, 3)) else (if (wrap64 ((wrap64 ((wrap64 ((wrap64 (t167 + (t170 / 4294967296))) + ((wrap64 ((wrap64 (Int.tdiv (wrap64 (t168 * 4294967296)) 1000000000)) + (Go.bits .and .i64 t170 4294967295))) / 4294967296))) * 1000000000)) + t171)) > 8000000000000000000 then (some (0, 3)) else (some (wrap64 ((wrap64 ((wrap64 ((wrap64 (t167 + (t170 / 4294967296))) + ((wrap64 ((wrap64 (Int.tdiv (wrap64 (t168 * 4294967296)) 1000000000)) + (Go.bits .and .i64 t170 4294967295))) / 4294967296))) * 1000000000)) + t171), 0)))) = some (r1, r2) := H
              have A12 := Aside0.mk A120
              clear A120
              by_cases c13 : (wrap64 ((wrap64 ((wrap64 ((wrap64 (t167 + (t170 / 4294967296))) + ((wrap64 ((wrap64 (Int.tdiv (wrap64 (t168 * 4294967296)) 1000000000)) + (Go.bits .and .i64 t170 4294967295))) / 4294967296))) * 1000000000)) + t171)) < (-8000000000000000000)
              · rw [if_pos c13] at H
                have c13b0 : decide ((wrap64 ((wrap64 ((wrap64 ((wrap64 (t167 + (t170 / 4294967296))) + ((wrap64 ((wrap64 (Int.tdiv (wrap64 (t168 * 4294967296)) 1000000000)) + (Go.bits .and .i64 t170 4294967295))) / 4294967296))) * 1000000000)) + t171)) < (-8000000000000000000)) = true := decide_eq_true c13
                clear c13
                simp only [Option.some.injEq, Prod.mk.injEq] at H
                obtain ⟨rfl, rfl⟩ := H
                go_wp2_with (first | ((with_reducible refine gate_callee (f := 53) rfl ?_); refine goesL_ (some 58) rfl rfl Try.func53 (by kernel_rfl) rfl #[.int .i64 (Go.bits .and .i64 (wrap64 ((wrap64 (Int.tdiv (wrap64 (t168 * 4294967296)) 1000000000)) + (Go.bits .and .i64 t170 4294967295))) 4294967295)] rfl (by (try simp only [List.map_toArray, List.map_cons, List.map_nil]); first | done | rfl | (simp only [List.length_drop, List.length_take]; rfl)) ?_; (with_reducible refine (timesyncref03_above.calls (Go.bits .and .i64 (wrap64 ((wrap64 (Int.tdiv (wrap64 (t168 * 4294967296)) 1000000000)) + (Go.bits .and .i64 t170 4294967295))) 4294967295) t171 _ A12.out).mono ?_); rintro e w' ⟨rfl, ⟨nd, rfl⟩⟩; refine ⟨_, rfl, ?_⟩))
                go_ret2
                exact ⟨by first | rfl | (simp; done) | (simp [*]; done), by repeat (first | exact Drawn0.refl _ | apply Drawn0.step)⟩
              · rw [if_neg c13] at H
                have c13b0 : decide ((wrap64 ((wrap64 ((wrap64 ((wrap64 (t167 + (t170 / 4294967296))) + ((wrap64 ((wrap64 (Int.tdiv (wrap64 (t168 * 4294967296)) 1000000000)) + (Go.bits .and .i64 t170 4294967295))) / 4294967296))) * 1000000000)) + t171)) < (-8000000000000000000)) = false := decide_eq_false c13
                clear c13
                by_cases c14 : (wrap64 ((wrap64 ((wrap64 ((wrap64 (t167 + (t170 / 4294967296))) + ((wrap64 ((wrap64 (Int.tdiv (wrap64 (t168 * 4294967296)) 1000000000)) + (Go.bits .and .i64 t170 4294967295))) / 4294967296))) * 1000000000)) + t171)) > 8000000000000000000
                · rw [if_pos c14] at H
                  have c14b0 : decide (8000000000000000000 < (wrap64 ((wrap64 ((wrap64 ((wrap64 (t167 + (t170 / 4294967296))) + ((wrap64 ((wrap64 (Int.tdiv (wrap64 (t168 * 4294967296)) 1000000000)) + (Go.bits .and .i64 t170 4294967295))) / 4294967296))) * 1000000000)) + t171))) = true := decide_eq_true c14
                  clear c14
                  simp only [Option.some.injEq, Prod.mk.injEq] at H
                  obtain ⟨rfl, rfl⟩ := H
                  go_wp2_with (first | ((with_reducible refine gate_callee (f := 53) rfl ?_); refine goesL_ (some 58) rfl rfl Try.func53 (by kernel_rfl) rfl #[.int .i64 (Go.bits .and .i64 (wrap64 ((wrap64 (Int.tdiv (wrap64 (t168 * 4294967296)) 1000000000)) + (Go.bits .and .i64 t170 4294967295))) 4294967295)] rfl (by (try simp only [List.map_toArray, List.map_cons, List.map_nil]); first | done | rfl | (simp only [List.length_drop, List.length_take]; rfl)) ?_; (with_reducible refine (timesyncref03_above.calls (Go.bits .and .i64 (wrap64 ((wrap64 (Int.tdiv (wrap64 (t168 * 4294967296)) 1000000000)) + (Go.bits .and .i64 t170 4294967295))) 4294967295) t171 _ A12.out).mono ?_); rintro e w' ⟨rfl, ⟨nd, rfl⟩⟩; refine ⟨_, rfl, ?_⟩))
                  go_ret2
                  exact ⟨by first | rfl | (simp; done) | (simp [*]; done), by repeat (first | exact Drawn0.refl _ | apply Drawn0.step)⟩
                · rw [if_neg c14] at H
                  have c14b0 : decide (8000000000000000000 < (wrap64 ((wrap64 ((wrap64 ((wrap64 (t167 + (t170 / 4294967296))) + ((wrap64 ((wrap64 (Int.tdiv (wrap64 (t168 * 4294967296)) 1000000000)) + (Go.bits .and .i64 t170 4294967295))) / 4294967296))) * 1000000000)) + t171))) = false := decide_eq_false c14
                  clear c14
                  simp only [Option.some.injEq, Prod.mk.injEq] at H
                  obtain ⟨rfl, rfl⟩ := H
                  go_wp2_with (first | ((with_reducible refine gate_callee (f := 53) rfl ?_); refine goesL_ (some 58) rfl rfl Try.func53 (by kernel_rfl) rfl #[.int .i64 (Go.bits .and .i64 (wrap64 ((wrap64 (Int.tdiv (wrap64 (t168 * 4294967296)) 1000000000)) + (Go.bits .and .i64 t170 4294967295))) 4294967295)] rfl (by (try simp only [List.map_toArray, List.map_cons, List.map_nil]); first | done | rfl | (simp only [List.length_drop, List.length_take]; rfl)) ?_; (with_reducible refine (timesyncref03_above.calls (Go.bits .and .i64 (wrap64 ((wrap64 (Int.tdiv (wrap64 (t168 * 4294967296)) 1000000000)) + (Go.bits .and .i64 t170 4294967295))) 4294967295) t171 _ A12.out).mono ?_); rintro e w' ⟨rfl, ⟨nd, rfl⟩⟩; refine ⟨_, rfl, ?_⟩))
                  go_ret2
                  exact ⟨by first | rfl | (simp; done) | (simp [*]; done), by repeat (first | exact Drawn0.refl _ | apply Drawn0.step)⟩

end Go.Proofs.Ytohjmfjdopffkaa.PAs
