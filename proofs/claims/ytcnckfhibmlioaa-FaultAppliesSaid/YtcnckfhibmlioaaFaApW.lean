/- The walk of timesynclaw55_FaultApplies, its ways that return true. -/
import Derived.Test.YtcnckfhibmlioaaPFax0
import Derived.Test.YtcnckfhibmlioaaPFax1
import Derived.Test.YtcnckfhibmlioaaPFax2
import Derived.Test.YtcnckfhibmlioaaPFax6
import Derived.Test.YtcnckfhibmlioaaPFax7
import Derived.Test.YtcnckfhibmlioaaPFax9
import Derived.Test.YtcnckfhibmlioaaFaP14
import Derived.Test.YtcnckfhibmlioaaFaApR
namespace Go.Proofs.Ytcnckfhibmlioaa.PFa
open Go.RowKit Go.Proofs.YtcnckfhibmlioaaW.PrintWords Go.Proofs.YtcnckfhibmlioaaW.PrintLast Go.Proofs.YtcnckfhibmlioaaW.PrintMore
attribute [local go_sem] max2_int min2_int max_two min_two max_three min_three max_four min_four   -- for this text's walks alone
set_option linter.unusedVariables false
set_option linter.unusedSimpArgs false
theorem eqA38 (d : Nat) (w : World) (x0 y0 : Bool) (x1 y1 : Int) (x2 y2 : Int) (x3 y3 : Int) (x4 y4 : Int) (x5 y5 : Int) (x6 y6 : Int) (x7 y7 : Int) (x8 y8 : Int) (x9 y9 : Int) (x10 y10 : Int) (x11 y11 : Int) (x12 y12 : Int) (x13 y13 : Int) (x14 y14 : Int) (x15 y15 : Int) (x16 y16 : Int) :
    (Op.equalIn (d + 3) 38 (.agg #[.bool x0, .int .i64 x1, .int .i64 x2, .int .i64 x3, .int .i64 x4, .int .i64 x5, .int .i64 x6, .int .u32 x7, .int .u32 x8, .int .u32 x9, .int .u64 x10, .int .u64 x11, .int .u64 x12, .int .u64 x13, .int .i64 x14, .int .i64 x15, .int .i64 x16]) (.agg #[.bool y0, .int .i64 y1, .int .i64 y2, .int .i64 y3, .int .i64 y4, .int .i64 y5, .int .i64 y6, .int .u32 y7, .int .u32 y8, .int .u32 y9, .int .u64 y10, .int .u64 y11, .int .u64 y12, .int .u64 y13, .int .i64 y14, .int .i64 y15, .int .i64 y16])).run Try.prog w = .ok (x0 == y0 && ((x1 == y1 && (x2 == y2 && (x3 == y3 && (x4 == y4 && (x5 == y5 && (x6 == y6 && (x7 == y7 && (x8 == y8 && (x9 == y9 && (x10 == y10 && (x11 == y11 && (x12 == y12 && (x13 == y13))))))))))))) && ((x14 == y14 && (x15 == y15)) && (x16 == y16)))) w := by
  refine eqA_of Try.underlying38 (by kernel_rfl) ?_
  refine eqf_cons (by rfl) (by go_simp; rfl) (by go_simp; rfl) (by go_simp) ?_
  refine eqf_cons (by rfl) (by go_simp) (by go_simp) (eqA33 (d + 0) w _ _ _ _ _ _ _ _ _ _ _ _ _ _ _ _ _ _ _ _ _ _ _ _ _ _) ?_
  refine eqf_cons (by rfl) (by go_simp) (by go_simp) (eqA35 (d + 0) w _ _ _ _) ?_
  exact eqf_last (by rfl) (by go_simp; rfl) (by go_simp; rfl) (by go_simp)
attribute [local go_sem high] eqA38
/-! ### timesynclaw55_FaultApplies: function 4 -/
def timesynclaw55_FaultApplies.f (k : Nat) (l0 : List (S46)) (a1 : Int) (a2 : Int) (a3_0 : Int) (a3_1 : Int) (a3_2 : Int) (a3_3 : Int) (a3_4 : Int) (a3_5 : Int) (a3_6 : Int) (a3_7 : Int) (a3_8 : Int) (a3_9 : Int) (a3_10 : Int) (a3_11 : Int) (a3_12 : Int) (a4_0 : Int) (a4_1 : Int) : Option (Bool) := (timesynclaw55_long.f l0).bind fun t466 => (if t466 = true then ((timesynclaw55_awake.f).bind fun t467 => (some t467)) else ((fault_Active.f k l0 a1 a2).bind fun t468 => ((timesyncref55_Active.f k l0 a1 a2).bind fun t471 => ((slices_Equal_int_int.f k t468 t471).bind fun t474 => (if t474 = true then ((fault_Apply.f k l0 a1 a2 a3_0 a3_1 a3_2 a3_3 a3_4 a3_5 a3_6 a3_7 a3_8 a3_9 a3_10 a3_11 a3_12 a4_0 a4_1).bind fun bt475 => ((timesyncref55_Apply.f k l0 a1 a2 a3_0 a3_1 a3_2 a3_3 a3_4 a3_5 a3_6 a3_7 a3_8 a3_9 a3_10 a3_11 a3_12 a4_0 a4_1).bind fun bt492 => (if (bt475.1 == bt492.1 && ((bt475.2.1 == bt492.2.1 && (bt475.2.2.1 == bt492.2.2.1 && (bt475.2.2.2.1 == bt492.2.2.2.1 && (bt475.2.2.2.2.1 == bt492.2.2.2.2.1 && (bt475.2.2.2.2.2.1 == bt492.2.2.2.2.2.1 && (bt475.2.2.2.2.2.2.1 == bt492.2.2.2.2.2.2.1 && (bt475.2.2.2.2.2.2.2.1 == bt492.2.2.2.2.2.2.2.1 && (bt475.2.2.2.2.2.2.2.2.1 == bt492.2.2.2.2.2.2.2.2.1 && (bt475.2.2.2.2.2.2.2.2.2.1 == bt492.2.2.2.2.2.2.2.2.2.1 && (bt475.2.2.2.2.2.2.2.2.2.2.1 == bt492.2.2.2.2.2.2.2.2.2.2.1 && (bt475.2.2.2.2.2.2.2.2.2.2.2.1 == bt492.2.2.2.2.2.2.2.2.2.2.2.1 && (bt475.2.2.2.2.2.2.2.2.2.2.2.2.1 == bt492.2.2.2.2.2.2.2.2.2.2.2.2.1 && (bt475.2.2.2.2.2.2.2.2.2.2.2.2.2.1 == bt492.2.2.2.2.2.2.2.2.2.2.2.2.2.1))))))))))))) && ((bt475.2.2.2.2.2.2.2.2.2.2.2.2.2.2.1 == bt492.2.2.2.2.2.2.2.2.2.2.2.2.2.2.1 && (bt475.2.2.2.2.2.2.2.2.2.2.2.2.2.2.2.1 == bt492.2.2.2.2.2.2.2.2.2.2.2.2.2.2.2.1)) && (bt475.2.2.2.2.2.2.2.2.2.2.2.2.2.2.2.2 == bt492.2.2.2.2.2.2.2.2.2.2.2.2.2.2.2.2)))) = true then ((timesynclaw55_awake.f).bind fun t509 => (some t509)) else (some false)))) else (some false))))))
theorem timesynclaw55_FaultApplies.mono : ∀ a0 a1 a2 a3 a4 a5 a6 a7 a8 a9 a10 a11 a12 a13 a14 a15 a16 a17 k, LeO (timesynclaw55_FaultApplies.f k a0 a1 a2 a3 a4 a5 a6 a7 a8 a9 a10 a11 a12 a13 a14 a15 a16 a17) (timesynclaw55_FaultApplies.f (k + 1) a0 a1 a2 a3 a4 a5 a6 a7 a8 a9 a10 a11 a12 a13 a14 a15 a16 a17) := by
  intro a0 a1 a2 a3 a4 a5 a6 a7 a8 a9 a10 a11 a12 a13 a14 a15 a16 a17 k
  unfold timesynclaw55_FaultApplies.f
  repeat' first
      | (with_reducible exact fault_Active.mono _ _ _ _)
      | (with_reducible exact fault_Apply.mono _ _ _ _ _ _ _ _ _ _ _ _ _ _ _ _ _ _ _)
      | (with_reducible exact slices_Equal_int_int.mono _ _ _)
      | (with_reducible exact timesyncref55_Active.mono _ _ _ _)
      | (with_reducible exact timesyncref55_Apply.mono _ _ _ _ _ _ _ _ _ _ _ _ _ _ _ _ _ _ _)
      | (with_reducible exact LeO.refl _)
      | (with_reducible exact LeO.none _)
      | (with_reducible refine LeO.ite ?_ ?_)
      | (with_reducible refine LeO.bind ?_ (fun _ => ?_))
      | exact fault_Active.mono _ _ _ _
      | exact fault_Apply.mono _ _ _ _ _ _ _ _ _ _ _ _ _ _ _ _ _ _ _
      | exact slices_Equal_int_int.mono _ _ _
      | exact timesyncref55_Active.mono _ _ _ _
      | exact timesyncref55_Apply.mono _ _ _ _ _ _ _ _ _ _ _ _ _ _ _ _ _ _ _
      | exact LeO.none _
      | refine LeO.ite ?_ ?_
      | refine LeO.bind ?_ (fun _ => ?_)
def timesynclaw55_FaultApplies.T3 : Bool × List (List Nat × List Nat) := (true, [([], []), ([], []), ([], []), ([0, 1, 2], [0, 1, 2]), ([], []), ([], []), ([], []), ([4, 5, 6, 3], [4, 5, 6]), ([3, 7, 7], [3, 7]), ([8, 8], [8]), ([9], [9]), ([9], [9]), ([9], [9]), ([9], [9]), ([9], [9]), ([10, 11, 12, 13, 14, 9, 9], [9, 10, 11, 12, 13, 14]), ([9], [9]), ([9], [9]), ([9], [9]), ([9], [9]), ([9], [9]), ([16, 17, 18, 19, 20, 15, 9], [9, 16, 17, 18, 19, 20]), ([15, 21, 9], [9, 15, 21]), ([9, 22], [9, 22]), ([23, 21], [23]), ([24, 24], [24]), ([24, 25], [24, 25]), ([26, 25, 0, 1, 2, 3, 4, 5, 6, 7, 8, 9, 10, 11, 12, 13, 14, 15, 16, 17, 18, 19, 20, 21, 22, 23, 24, 25, 26], [26])])
def timesynclaw55_FaultApplies.B3 : List Nat := [0, 0, 0, 7, 0, 0, 0, 127, 255, 511, 1023, 1023, 1023, 1023, 1023, 32767, 1023, 1023, 1023, 1023, 1023, 2097151, 4194303, 8388607, 16777215, 33554431, 67108863, 134217727]
theorem timesynclaw55_FaultApplies.tab3 : rtab .any (opsOf Try.f4 3) = timesynclaw55_FaultApplies.T3 := by kernel_rfl
theorem timesynclaw55_FaultApplies.bits3 : waitsOk timesynclaw55_FaultApplies.T3.2 timesynclaw55_FaultApplies.B3 = true := by kernel_rfl
set_option maxHeartbeats 8000000 in
set_option maxRecDepth 100000 in
theorem timesynclaw55_FaultApplies.true_ (k : Nat) (A0 : Option Addr) (c0 : Nat) (l0 : List (S46)) (a1 : Int) (a2 : Int) (a3_0 : Int) (a3_1 : Int) (a3_2 : Int) (a3_3 : Int) (a3_4 : Int) (a3_5 : Int) (a3_6 : Int) (a3_7 : Int) (a3_8 : Int) (a3_9 : Int) (a3_10 : Int) (a3_11 : Int) (a3_12 : Int) (a4_0 : Int) (a4_1 : Int) (w : World) (hr0 : Kd.C k46 w A0 l0.length l0) (hc0 : l0.length ≤ c0) (h : timesynclaw55_FaultApplies.f k l0 a1 a2 a3_0 a3_1 a3_2 a3_3 a3_4 a3_5 a3_6 a3_7 a3_8 a3_9 a3_10 a3_11 a3_12 a4_0 a4_1 = some true) :
    Calls Try.prog 4 #[.slice A0 l0.length c0, .int .i64 a1, .int .i64 a2, .agg #[.int .i64 a3_0, .int .i64 a3_1, .int .i64 a3_2, .int .i64 a3_3, .int .i64 a3_4, .int .i64 a3_5, .int .u32 a3_6, .int .u32 a3_7, .int .u32 a3_8, .int .u64 a3_9, .int .u64 a3_10, .int .u64 a3_11, .int .u64 a3_12], .agg #[.int .i64 a4_0, .int .i64 a4_1]] w fun e w' => e = .returned (.bool true) ∧ Below w.heap.size w w' := by
  have hu33 := Try.underlying33
  have hu35 := Try.underlying35
  have HR0 := Aside0.mk hr0
  have HC0 := Aside0.mk hc0
  clear hr0 hc0
  have HB := Aside0.mk (Below.refl w.heap.size w)
  have H : ((timesynclaw55_long.f l0).bind fun t466 => (if t466 = true then ((timesynclaw55_awake.f).bind fun t467 => (some t467)) else ((fault_Active.f k l0 a1 a2).bind fun t468 => ((timesyncref55_Active.f k l0 a1 a2).bind fun t471 => ((slices_Equal_int_int.f k t468 t471).bind fun t474 => (if t474 = true then ((fault_Apply.f k l0 a1 a2 a3_0 a3_1 a3_2 a3_3 a3_4 a3_5 a3_6 a3_7 a3_8 a3_9 a3_10 a3_11 a3_12 a4_0 a4_1).bind fun bt475 => ((timesyncref55_Apply.f k l0 a1 a2 a3_0 a3_1 a3_2 a3_3 a3_4 a3_5 a3_6 a3_7 a3_8 a3_9 a3_10 a3_11 a3_12 a4_0 a4_1).bind fun bt492 => (if (bt475.1 == bt492.1 && ((bt475.2.1 == bt492.2.1 && (bt475.2.2.1 == bt492.2.2.1 && (bt475.2.2.2.1 == bt492.2.2.2.1 && (bt475.2.2.2.2.1 == bt492.2.2.2.2.1 && (bt475.2.2.2.2.2.1 == bt492.2.2.2.2.2.1 && (bt475.2.2.2.2.2.2.1 == bt492.2.2.2.2.2.2.1 && (bt475.2.2.2.2.2.2.2.1 == bt492.2.2.2.2.2.2.2.1 && (bt475.2.2.2.2.2.2.2.2.1 == bt492.2.2.2.2.2.2.2.2.1 && (bt475.2.2.2.2.2.2.2.2.2.1 == bt492.2.2.2.2.2.2.2.2.2.1 && (bt475.2.2.2.2.2.2.2.2.2.2.1 == bt492.2.2.2.2.2.2.2.2.2.2.1 && (bt475.2.2.2.2.2.2.2.2.2.2.2.1 == bt492.2.2.2.2.2.2.2.2.2.2.2.1 && (bt475.2.2.2.2.2.2.2.2.2.2.2.2.1 == bt492.2.2.2.2.2.2.2.2.2.2.2.2.1 && (bt475.2.2.2.2.2.2.2.2.2.2.2.2.2.1 == bt492.2.2.2.2.2.2.2.2.2.2.2.2.2.1))))))))))))) && ((bt475.2.2.2.2.2.2.2.2.2.2.2.2.2.2.1 == bt492.2.2.2.2.2.2.2.2.2.2.2.2.2.2.1 && (bt475.2.2.2.2.2.2.2.2.2.2.2.2.2.2.2.1 == bt492.2.2.2.2.2.2.2.2.2.2.2.2.2.2.2.1)) && (bt475.2.2.2.2.2.2.2.2.2.2.2.2.2.2.2.2 == bt492.2.2.2.2.2.2.2.2.2.2.2.2.2.2.2.2)))) = true then ((timesynclaw55_awake.f).bind fun t509 => (some t509)) else (some false)))) else (some false))))))) = some true := h
  clear h
  replace H := Option.bind_eq_some_iff.mp H
  obtain ⟨t466, A60, H⟩ := H
  replace H : (if t466 = true then ((timesynclaw55_awake.f).bind fun t467 => (some t467)) else ((fault_Active.f k l0 a1 a2).bind fun t468 => ((timesyncref55_Active.f k l0 a1 a2).bind fun t471 => ((slices_Equal_int_int.f k t468 t471).bind fun t474 => (if t474 = true then ((fault_Apply.f k l0 a1 a2 a3_0 a3_1 a3_2 a3_3 a3_4 a3_5 a3_6 a3_7 a3_8 a3_9 a3_10 a3_11 a3_12 a4_0 a4_1).bind fun bt475 => ((timesyncref55_Apply.f k l0 a1 a2 a3_0 a3_1 a3_2 a3_3 a3_4 a3_5 a3_6 a3_7 a3_8 a3_9 a3_10 a3_11 a3_12 a4_0 a4_1).bind fun bt492 => (if (bt475.1 == bt492.1 && ((bt475.2.1 == bt492.2.1 && (bt475.2.2.1 == bt492.2.2.1 && (bt475.2.2.2.1 == bt492.2.2.2.1 && (bt475.2.2.2.2.1 == bt492.2.2.2.2.1 && (bt475.2.2.2.2.2.1 == bt492.2.2.2.2.2.1 && (bt475.2.2.2.2.2.2.1 == bt492.2.2.2.2.2.2.1 && (bt475.2.2.2.2.2.2.2.1 == bt492.2.2.2.2.2.2.2.1 && (bt475.2.2.2.2.2.2.2.2.1 == bt492.2.2.2.2.2.2.2.2.1 && (bt475.2.2.2.2.2.2.2.2.2.1 == bt492.2.2.2.2.2.2.2.2.2.1 && (bt475.2.2.2.2.2.2.2.2.2.2.1 == bt492.2.2.2.2.2.2.2.2.2.2.1 && (bt475.2.2.2.2.2.2.2.2.2.2.2.1 == bt492.2.2.2.2.2.2.2.2.2.2.2.1 && (bt475.2.2.2.2.2.2.2.2.2.2.2.2.1 == bt492.2.2.2.2.2.2.2.2.2.2.2.2.1 && (bt475.2.2.2.2.2.2.2.2.2.2.2.2.2.1 == bt492.2.2.2.2.2.2.2.2.2.2.2.2.2.1))))))))))))) && ((bt475.2.2.2.2.2.2.2.2.2.2.2.2.2.2.1 == bt492.2.2.2.2.2.2.2.2.2.2.2.2.2.2.1 && (bt475.2.2.2.2.2.2.2.2.2.2.2.2.2.2.2.1 == bt492.2.2.2.2.2.2.2.2.2.2.2.2.2.2.2.1)) && (bt475.2.2.2.2.2.2.2.2.2.2.2.2.2.2.2.2 == bt492.2.2.2.2.2.2.2.2.2.2.2.2.2.2.2.2)))) = true then ((timesynclaw55_awake.f).bind fun t509 => (some t509)) else (some false)))) else (some false)))))) = some true := H
  have A6 := Aside0.mk A60
  clear A60
  by_cases c7 : t466 = true
  · subst c7
    have H1 : ((timesynclaw55_awake.f).bind fun t467 => (some t467)) = some true := by rw [if_pos rfl] at H; exact H
    clear H
    have H := H1
    clear H1
    replace H := Option.bind_eq_some_iff.mp H
    obtain ⟨t467, A80, H⟩ := H
    replace H : (some t467) = some true := H
    have A8 := Aside0.mk A80
    clear A80
    have hE := Option.some.inj H
    subst hE
    go_enter Try.func4, Try.ntmps4
    go_wp2_with (first | ((with_reducible refine gate_dst (N := 8) rfl ?_); refine box_event ?hg (N := 8) ?hd (cs := #[.int .i64 a3_0, .int .i64 a3_1, .int .i64 a3_2, .int .i64 a3_3, .int .i64 a3_4, .int .i64 a3_5, .int .u32 a3_6, .int .u32 a3_7, .int .u32 a3_8, .int .u64 a3_9, .int .u64 a3_10, .int .u64 a3_11, .int .u64 a3_12]) (t := 33) ?hr ?_; (case hd => rfl); (case hg => rfl); (case hr => first | (go_simp; done) | (go_simp; rfl)); intro gb464 hg w9 hbox hb; have n0_ := Aside0.mk (below_step (by repeat (first | (with_reducible first | exact HB.out | apply below_alloc | apply pw_below_drewN | apply below_drew1) | exact HB.out)) hb); have n1_ := Aside0.mk (hbox); have n2_ := Aside0.mk ((by rw [hg]; exact (below_size (by repeat (first | (with_reducible first | exact HB.out | apply below_alloc | apply pw_below_drewN | apply below_drew1) | exact HB.out))) : w.heap.size ≤ gb464)); have n3_ := Aside0.mk ((by rw [hg]; exact (below_size (by repeat (first | (with_reducible first | exact HB.out | apply below_alloc | apply pw_below_drewN | apply below_drew1) | exact HB.out))) : w.heap.size ≤ gb464)); clear HB; have HB := n0_; have BK464 := n1_; have GW464 := n2_; have GE464 := n3_; clear n0_ n1_ n2_ n3_; clear hb hbox hg) | ((with_reducible refine gate_dst (N := 9) rfl ?_); refine box_event ?hg (N := 9) ?hd (cs := #[.int .i64 a4_0, .int .i64 a4_1]) (t := 35) ?hr ?_; (case hd => rfl); (case hg => rfl); (case hr => first | (go_simp; done) | (go_simp; rfl)); intro gb465 hg w10 hbox hb; have n0_ := Aside0.mk (blk_below (g := gb464) (o := .cells #[.int .i64 a3_0, .int .i64 a3_1, .int .i64 a3_2, .int .i64 a3_3, .int .i64 a3_4, .int .i64 a3_5, .int .u32 a3_6, .int .u32 a3_7, .int .u32 a3_8, .int .u64 a3_9, .int .u64 a3_10, .int .u64 a3_11, .int .u64 a3_12] 33 (0, 0)) (by (with_reducible repeat (first | refine blk_drewN ?_ _ | refine blk_drew ?_ | refine blk_alloc ?_ _)); exact BK464.out) hb); have n1_ := Aside0.mk (below_step (by repeat (first | (with_reducible first | exact HB.out | apply below_alloc | apply pw_below_drewN | apply below_drew1 | refine below_set ?_ GE464.out) | exact HB.out)) hb); have n2_ := Aside0.mk (hbox); have n3_ := Aside0.mk ((by rw [hg]; exact (below_size (by repeat (first | (with_reducible first | exact HB.out | apply below_alloc | apply pw_below_drewN | apply below_drew1 | refine below_set ?_ GE464.out) | exact HB.out))) : w.heap.size ≤ gb465)); have n4_ := Aside0.mk ((by rw [hg]; exact (below_size (by repeat (first | (with_reducible first | exact HB.out | apply below_alloc | apply pw_below_drewN | apply below_drew1 | refine below_set ?_ GE464.out) | exact HB.out))) : w.heap.size ≤ gb465)); have n5_ := Aside0.mk ((by rw [hg]; exact Nat.ne_of_lt (blk_lt (g := gb464) (o := .cells #[.int .i64 a3_0, .int .i64 a3_1, .int .i64 a3_2, .int .i64 a3_3, .int .i64 a3_4, .int .i64 a3_5, .int .u32 a3_6, .int .u32 a3_7, .int .u32 a3_8, .int .u64 a3_9, .int .u64 a3_10, .int .u64 a3_11, .int .u64 a3_12] 33 (0, 0)) (by (with_reducible repeat (first | refine blk_drewN ?_ _ | refine blk_drew ?_ | refine blk_alloc ?_ _)); exact BK464.out)) : gb464 ≠ gb465)); have n6_ := Aside0.mk ((by rw [hg]; exact Nat.ne_of_gt (blk_lt (g := gb464) (o := .cells #[.int .i64 a3_0, .int .i64 a3_1, .int .i64 a3_2, .int .i64 a3_3, .int .i64 a3_4, .int .i64 a3_5, .int .u32 a3_6, .int .u32 a3_7, .int .u32 a3_8, .int .u64 a3_9, .int .u64 a3_10, .int .u64 a3_11, .int .u64 a3_12] 33 (0, 0)) (by (with_reducible repeat (first | refine blk_drewN ?_ _ | refine blk_drew ?_ | refine blk_alloc ?_ _)); exact BK464.out)) : gb465 ≠ gb464)); clear BK464; clear HB; have BK464 := n0_; have HB := n1_; have BK465 := n2_; have GW465 := n3_; have GE465 := n4_; have NB464_465 := n5_; have NB465_464 := n6_; clear n0_ n1_ n2_ n3_ n4_ n5_ n6_; clear hb hbox hg) | ((with_reducible refine gate_callee (f := 11) rfl ?_); refine goesL_ (some 12) rfl rfl Try.func11 (by kernel_rfl) rfl #[.slice A0 l0.length c0] rfl (by (try simp only [List.map_toArray, List.map_cons, List.map_nil]); first | done | rfl | (simp only [List.length_drop, List.length_take]; rfl)) ?_; (with_reducible refine (timesynclaw55_long.calls _ _ l0 true _ ?side1 ?side2 A6.out).mono ?_); (case side1 => repeat (first | exact (Kd.C_below HR0.out HB.out) | (with_reducible refine Kd.C_alloc ?_ _) | (with_reducible refine Kd.C_drewN ?_ _) | (with_reducible refine Kd.C_drew ?_))); (case side2 => exact HC0.out); rintro e w' ⟨rfl, ⟨nd, rfl⟩⟩; refine ⟨_, rfl, ?_⟩) | ((with_reducible refine gate_callee (f := 12) rfl ?_); refine goesL_ (some 13) rfl rfl Try.func12 (by kernel_rfl) rfl #[] rfl (by (try simp only [List.map_toArray, List.map_cons, List.map_nil]); first | done | rfl | (simp only [List.length_drop, List.length_take]; rfl)) ?_; (with_reducible refine (timesynclaw55_awake.calls  true _ A8.out).mono ?_); rintro e w11 ⟨rfl, hb⟩; refine ⟨_, rfl, ?_⟩; have n0_ := Aside0.mk (blk_below (g := gb464) (o := .cells #[.int .i64 a3_0, .int .i64 a3_1, .int .i64 a3_2, .int .i64 a3_3, .int .i64 a3_4, .int .i64 a3_5, .int .u32 a3_6, .int .u32 a3_7, .int .u32 a3_8, .int .u64 a3_9, .int .u64 a3_10, .int .u64 a3_11, .int .u64 a3_12] 33 (0, 0)) (by (with_reducible repeat (first | refine blk_drewN ?_ _ | refine blk_drew ?_ | refine blk_alloc ?_ _)); exact BK464.out) hb); have n1_ := Aside0.mk (blk_below (g := gb465) (o := .cells #[.int .i64 a4_0, .int .i64 a4_1] 35 (0, 0)) (by (with_reducible repeat (first | refine blk_drewN ?_ _ | refine blk_drew ?_ | refine blk_alloc ?_ _)); exact BK465.out) hb); have n2_ := Aside0.mk (below_step (by repeat (first | (with_reducible first | exact HB.out | apply below_alloc | apply pw_below_drewN | apply below_drew1 | refine below_set ?_ GE464.out | refine below_set ?_ GE465.out) | exact HB.out)) hb); clear BK464; clear BK465; clear HB; have BK464 := n0_; have BK465 := n1_; have HB := n2_; clear n0_ n1_ n2_; (try clear hb); (try clear hb2); (try clear hk); (try clear hi)))
    go_ret
    exact ⟨by first | rfl | (simp [errW_none, errW_some] <;> rfl) | (simp [*, errW_none, errW_some] <;> rfl), by repeat (first | (with_reducible first | exact HB.out | apply below_alloc | apply pw_below_drewN | apply below_drew1 | refine below_set ?_ GE464.out | refine below_set ?_ GE465.out) | exact HB.out)⟩
  · replace c7 := Bool.eq_false_iff.mpr c7
    subst c7
    have H1 : ((fault_Active.f k l0 a1 a2).bind fun t468 => ((timesyncref55_Active.f k l0 a1 a2).bind fun t471 => ((slices_Equal_int_int.f k t468 t471).bind fun t474 => (if t474 = true then ((fault_Apply.f k l0 a1 a2 a3_0 a3_1 a3_2 a3_3 a3_4 a3_5 a3_6 a3_7 a3_8 a3_9 a3_10 a3_11 a3_12 a4_0 a4_1).bind fun bt475 => ((timesyncref55_Apply.f k l0 a1 a2 a3_0 a3_1 a3_2 a3_3 a3_4 a3_5 a3_6 a3_7 a3_8 a3_9 a3_10 a3_11 a3_12 a4_0 a4_1).bind fun bt492 => (if (bt475.1 == bt492.1 && ((bt475.2.1 == bt492.2.1 && (bt475.2.2.1 == bt492.2.2.1 && (bt475.2.2.2.1 == bt492.2.2.2.1 && (bt475.2.2.2.2.1 == bt492.2.2.2.2.1 && (bt475.2.2.2.2.2.1 == bt492.2.2.2.2.2.1 && (bt475.2.2.2.2.2.2.1 == bt492.2.2.2.2.2.2.1 && (bt475.2.2.2.2.2.2.2.1 == bt492.2.2.2.2.2.2.2.1 && (bt475.2.2.2.2.2.2.2.2.1 == bt492.2.2.2.2.2.2.2.2.1 && (bt475.2.2.2.2.2.2.2.2.2.1 == bt492.2.2.2.2.2.2.2.2.2.1 && (bt475.2.2.2.2.2.2.2.2.2.2.1 == bt492.2.2.2.2.2.2.2.2.2.2.1 && (bt475.2.2.2.2.2.2.2.2.2.2.2.1 == bt492.2.2.2.2.2.2.2.2.2.2.2.1 && (bt475.2.2.2.2.2.2.2.2.2.2.2.2.1 == bt492.2.2.2.2.2.2.2.2.2.2.2.2.1 && (bt475.2.2.2.2.2.2.2.2.2.2.2.2.2.1 == bt492.2.2.2.2.2.2.2.2.2.2.2.2.2.1))))))))))))) && ((bt475.2.2.2.2.2.2.2.2.2.2.2.2.2.2.1 == bt492.2.2.2.2.2.2.2.2.2.2.2.2.2.2.1 && (bt475.2.2.2.2.2.2.2.2.2.2.2.2.2.2.2.1 == bt492.2.2.2.2.2.2.2.2.2.2.2.2.2.2.2.1)) && (bt475.2.2.2.2.2.2.2.2.2.2.2.2.2.2.2.2 == bt492.2.2.2.2.2.2.2.2.2.2.2.2.2.2.2.2)))) = true then ((timesynclaw55_awake.f).bind fun t509 => (some t509)) else (some false)))) else (some false))))) = some true := by rw [if_neg (show ¬ (false = true) by decide)] at H; exact H
    clear H
    have H := H1
    clear H1
    replace H := Option.bind_eq_some_iff.mp H
    obtain ⟨t468, A120, H⟩ := H
    replace H : ((timesyncref55_Active.f k l0 a1 a2).bind fun t471 => ((slices_Equal_int_int.f k t468 t471).bind fun t474 => (if t474 = true then ((fault_Apply.f k l0 a1 a2 a3_0 a3_1 a3_2 a3_3 a3_4 a3_5 a3_6 a3_7 a3_8 a3_9 a3_10 a3_11 a3_12 a4_0 a4_1).bind fun bt475 => ((timesyncref55_Apply.f k l0 a1 a2 a3_0 a3_1 a3_2 a3_3 a3_4 a3_5 a3_6 a3_7 a3_8 a3_9 a3_10 a3_11 a3_12 a4_0 a4_1).bind fun bt492 => (if (bt475.1 == bt492.1 && ((bt475.2.1 == bt492.2.1 && (bt475.2.2.1 == bt492.2.2.1 && (bt475.2.2.2.1 == bt492.2.2.2.1 && (bt475.2.2.2.2.1 == bt492.2.2.2.2.1 && (bt475.2.2.2.2.2.1 == bt492.2.2.2.2.2.1 && (bt475.2.2.2.2.2.2.1 == bt492.2.2.2.2.2.2.1 && (bt475.2.2.2.2.2.2.2.1 == bt492.2.2.2.2.2.2.2.1 && (bt475.2.2.2.2.2.2.2.2.1 == bt492.2.2.2.2.2.2.2.2.1 && (bt475.2.2.2.2.2.2.2.2.2.1 == bt492.2.2.2.2.2.2.2.2.2.1 && (bt475.2.2.2.2.2.2.2.2.2.2.1 == bt492.2.2.2.2.2.2.2.2.2.2.1 && (bt475.2.2.2.2.2.2.2.2.2.2.2.1 == bt492.2.2.2.2.2.2.2.2.2.2.2.1 && (bt475.2.2.2.2.2.2.2.2.2.2.2.2.1 == bt492.2.2.2.2.2.2.2.2.2.2.2.2.1 && (bt475.2.2.2.2.2.2.2.2.2.2.2.2.2.1 == bt492.2.2.2.2.2.2.2.2.2.2.2.2.2.1))))))))))))) && ((bt475.2.2.2.2.2.2.2.2.2.2.2.2.2.2.1 == bt492.2.2.2.2.2.2.2.2.2.2.2.2.2.2.1 && (bt475.2.2.2.2.2.2.2.2.2.2.2.2.2.2.2.1 == bt492.2.2.2.2.2.2.2.2.2.2.2.2.2.2.2.1)) && (bt475.2.2.2.2.2.2.2.2.2.2.2.2.2.2.2.2 == bt492.2.2.2.2.2.2.2.2.2.2.2.2.2.2.2.2)))) = true then ((timesynclaw55_awake.f).bind fun t509 => (some t509)) else (some false)))) else (some false)))) = some true := H
    have A12 := Aside0.mk A120
    clear A120
    replace H := Option.bind_eq_some_iff.mp H
    obtain ⟨t471, A130, H⟩ := H
    replace H : ((slices_Equal_int_int.f k t468 t471).bind fun t474 => (if t474 = true then ((fault_Apply.f k l0 a1 a2 a3_0 a3_1 a3_2 a3_3 a3_4 a3_5 a3_6 a3_7 a3_8 a3_9 a3_10 a3_11 a3_12 a4_0 a4_1).bind fun bt475 => ((timesyncref55_Apply.f k l0 a1 a2 a3_0 a3_1 a3_2 a3_3 a3_4 a3_5 a3_6 a3_7 a3_8 a3_9 a3_10 a3_11 a3_12 a4_0 a4_1).bind fun bt492 => (if (bt475.1 == bt492.1 && ((bt475.2.1 == bt492.2.1 && (bt475.2.2.1 == bt492.2.2.1 && (bt475.2.2.2.1 == bt492.2.2.2.1 && (bt475.2.2.2.2.1 == bt492.2.2.2.2.1 && (bt475.2.2.2.2.2.1 == bt492.2.2.2.2.2.1 && (bt475.2.2.2.2.2.2.1 == bt492.2.2.2.2.2.2.1 && (bt475.2.2.2.2.2.2.2.1 == bt492.2.2.2.2.2.2.2.1 && (bt475.2.2.2.2.2.2.2.2.1 == bt492.2.2.2.2.2.2.2.2.1 && (bt475.2.2.2.2.2.2.2.2.2.1 == bt492.2.2.2.2.2.2.2.2.2.1 && (bt475.2.2.2.2.2.2.2.2.2.2.1 == bt492.2.2.2.2.2.2.2.2.2.2.1 && (bt475.2.2.2.2.2.2.2.2.2.2.2.1 == bt492.2.2.2.2.2.2.2.2.2.2.2.1 && (bt475.2.2.2.2.2.2.2.2.2.2.2.2.1 == bt492.2.2.2.2.2.2.2.2.2.2.2.2.1 && (bt475.2.2.2.2.2.2.2.2.2.2.2.2.2.1 == bt492.2.2.2.2.2.2.2.2.2.2.2.2.2.1))))))))))))) && ((bt475.2.2.2.2.2.2.2.2.2.2.2.2.2.2.1 == bt492.2.2.2.2.2.2.2.2.2.2.2.2.2.2.1 && (bt475.2.2.2.2.2.2.2.2.2.2.2.2.2.2.2.1 == bt492.2.2.2.2.2.2.2.2.2.2.2.2.2.2.2.1)) && (bt475.2.2.2.2.2.2.2.2.2.2.2.2.2.2.2.2 == bt492.2.2.2.2.2.2.2.2.2.2.2.2.2.2.2.2)))) = true then ((timesynclaw55_awake.f).bind fun t509 => (some t509)) else (some false)))) else (some false))) = some true := H
    have A13 := Aside0.mk A130
    clear A130
    replace H := Option.bind_eq_some_iff.mp H
    obtain ⟨t474, A140, H⟩ := H
    replace H : (if t474 = true then ((fault_Apply.f k l0 a1 a2 a3_0 a3_1 a3_2 a3_3 a3_4 a3_5 a3_6 a3_7 a3_8 a3_9 a3_10 a3_11 a3_12 a4_0 a4_1).bind fun bt475 => ((timesyncref55_Apply.f k l0 a1 a2 a3_0 a3_1 a3_2 a3_3 a3_4 a3_5 a3_6 a3_7 a3_8 a3_9 a3_10 a3_11 a3_12 a4_0 a4_1).bind fun bt492 => (if (bt475.1 == bt492.1 && ((bt475.2.1 == bt492.2.1 && (bt475.2.2.1 == bt492.2.2.1 && (bt475.2.2.2.1 == bt492.2.2.2.1 && (bt475.2.2.2.2.1 == bt492.2.2.2.2.1 && (bt475.2.2.2.2.2.1 == bt492.2.2.2.2.2.1 && (bt475.2.2.2.2.2.2.1 == bt492.2.2.2.2.2.2.1 && (bt475.2.2.2.2.2.2.2.1 == bt492.2.2.2.2.2.2.2.1 && (bt475.2.2.2.2.2.2.2.2.1 == bt492.2.2.2.2.2.2.2.2.1 && (bt475.2.2.2.2.2.2.2.2.2.1 == bt492.2.2.2.2.2.2.2.2.2.1 && (bt475.2.2.2.2.2.2.2.2.2.2.1 == bt492.2.2.2.2.2.2.2.2.2.2.1 && (bt475.2.2.2.2.2.2.2.2.2.2.2.1 == bt492.2.2.2.2.2.2.2.2.2.2.2.1 && (bt475.2.2.2.2.2.2.2.2.2.2.2.2.1 == bt492.2.2.2.2.2.2.2.2.2.2.2.2.1 && (bt475.2.2.2.2.2.2.2.2.2.2.2.2.2.1 == bt492.2.2.2.2.2.2.2.2.2.2.2.2.2.1))))))))))))) && ((bt475.2.2.2.2.2.2.2.2.2.2.2.2.2.2.1 == bt492.2.2.2.2.2.2.2.2.2.2.2.2.2.2.1 && (bt475.2.2.2.2.2.2.2.2.2.2.2.2.2.2.2.1 == bt492.2.2.2.2.2.2.2.2.2.2.2.2.2.2.2.1)) && (bt475.2.2.2.2.2.2.2.2.2.2.2.2.2.2.2.2 == bt492.2.2.2.2.2.2.2.2.2.2.2.2.2.2.2.2)))) = true then ((timesynclaw55_awake.f).bind fun t509 => (some t509)) else (some false)))) else (some false)) = some true := H
    have A14 := Aside0.mk A140
    clear A140
    by_cases c15 : t474 = true
    · subst c15
      have H1 : ((fault_Apply.f k l0 a1 a2 a3_0 a3_1 a3_2 a3_3 a3_4 a3_5 a3_6 a3_7 a3_8 a3_9 a3_10 a3_11 a3_12 a4_0 a4_1).bind fun bt475 => ((timesyncref55_Apply.f k l0 a1 a2 a3_0 a3_1 a3_2 a3_3 a3_4 a3_5 a3_6 a3_7 a3_8 a3_9 a3_10 a3_11 a3_12 a4_0 a4_1).bind fun bt492 => (if (bt475.1 == bt492.1 && ((bt475.2.1 == bt492.2.1 && (bt475.2.2.1 == bt492.2.2.1 && (bt475.2.2.2.1 == bt492.2.2.2.1 && (bt475.2.2.2.2.1 == bt492.2.2.2.2.1 && (bt475.2.2.2.2.2.1 == bt492.2.2.2.2.2.1 && (bt475.2.2.2.2.2.2.1 == bt492.2.2.2.2.2.2.1 && (bt475.2.2.2.2.2.2.2.1 == bt492.2.2.2.2.2.2.2.1 && (bt475.2.2.2.2.2.2.2.2.1 == bt492.2.2.2.2.2.2.2.2.1 && (bt475.2.2.2.2.2.2.2.2.2.1 == bt492.2.2.2.2.2.2.2.2.2.1 && (bt475.2.2.2.2.2.2.2.2.2.2.1 == bt492.2.2.2.2.2.2.2.2.2.2.1 && (bt475.2.2.2.2.2.2.2.2.2.2.2.1 == bt492.2.2.2.2.2.2.2.2.2.2.2.1 && (bt475.2.2.2.2.2.2.2.2.2.2.2.2.1 == bt492.2.2.2.2.2.2.2.2.2.2.2.2.1 && (bt475.2.2.2.2.2.2.2.2.2.2.2.2.2.1 == bt492.2.2.2.2.2.2.2.2.2.2.2.2.2.1))))))))))))) && ((bt475.2.2.2.2.2.2.2.2.2.2.2.2.2.2.1 == bt492.2.2.2.2.2.2.2.2.2.2.2.2.2.2.1 && (bt475.2.2.2.2.2.2.2.2.2.2.2.2.2.2.2.1 == bt492.2.2.2.2.2.2.2.2.2.2.2.2.2.2.2.1)) && (bt475.2.2.2.2.2.2.2.2.2.2.2.2.2.2.2.2 == bt492.2.2.2.2.2.2.2.2.2.2.2.2.2.2.2.2)))) = true then ((timesynclaw55_awake.f).bind fun t509 => (some t509)) else (some false)))) = some true := by rw [if_pos rfl] at H; exact H
      clear H
      have H := H1
      clear H1
      replace H := Option.bind_eq_some_iff.mp H
      obtain ⟨⟨t475, t476, t477, t478, t479, t480, t481, t482, t483, t484, t485, t486, t487, t488, t489, t490, t491⟩, A160, H⟩ := H
      replace H : ((timesyncref55_Apply.f k l0 a1 a2 a3_0 a3_1 a3_2 a3_3 a3_4 a3_5 a3_6 a3_7 a3_8 a3_9 a3_10 a3_11 a3_12 a4_0 a4_1).bind fun bt492 => (if (t475 == bt492.1 && ((t476 == bt492.2.1 && (t477 == bt492.2.2.1 && (t478 == bt492.2.2.2.1 && (t479 == bt492.2.2.2.2.1 && (t480 == bt492.2.2.2.2.2.1 && (t481 == bt492.2.2.2.2.2.2.1 && (t482 == bt492.2.2.2.2.2.2.2.1 && (t483 == bt492.2.2.2.2.2.2.2.2.1 && (t484 == bt492.2.2.2.2.2.2.2.2.2.1 && (t485 == bt492.2.2.2.2.2.2.2.2.2.2.1 && (t486 == bt492.2.2.2.2.2.2.2.2.2.2.2.1 && (t487 == bt492.2.2.2.2.2.2.2.2.2.2.2.2.1 && (t488 == bt492.2.2.2.2.2.2.2.2.2.2.2.2.2.1))))))))))))) && ((t489 == bt492.2.2.2.2.2.2.2.2.2.2.2.2.2.2.1 && (t490 == bt492.2.2.2.2.2.2.2.2.2.2.2.2.2.2.2.1)) && (t491 == bt492.2.2.2.2.2.2.2.2.2.2.2.2.2.2.2.2)))) = true then ((timesynclaw55_awake.f).bind fun t509 => (some t509)) else (some false))) = some true := H
      have A16 := Aside0.mk A160
      clear A160
      replace H := Option.bind_eq_some_iff.mp H
      obtain ⟨⟨t492, t493, t494, t495, t496, t497, t498, t499, t500, t501, t502, t503, t504, t505, t506, t507, t508⟩, A170, H⟩ := H
      replace H : (if (t475 == t492 && ((t476 == t493 && (t477 == t494 && (t478 == t495 && (t479 == t496 && (t480 == t497 && (t481 == t498 && (t482 == t499 && (t483 == t500 && (t484 == t501 && (t485 == t502 && (t486 == t503 && (t487 == t504 && (t488 == t505))))))))))))) && ((t489 == t506 && (t490 == t507)) && (t491 == t508)))) = true then ((timesynclaw55_awake.f).bind fun t509 => (some t509)) else (some false)) = some true := H
      have A17 := Aside0.mk A170
      clear A170
      by_cases c18 : (t475 == t492 && ((t476 == t493 && (t477 == t494 && (t478 == t495 && (t479 == t496 && (t480 == t497 && (t481 == t498 && (t482 == t499 && (t483 == t500 && (t484 == t501 && (t485 == t502 && (t486 == t503 && (t487 == t504 && (t488 == t505))))))))))))) && ((t489 == t506 && (t490 == t507)) && (t491 == t508)))) = true
      · rw [if_pos c18] at H
        have c18b0 : (t475 == t492 && ((t476 == t493 && (t477 == t494 && (t478 == t495 && (t479 == t496 && (t480 == t497 && (t481 == t498 && (t482 == t499 && (t483 == t500 && (t484 == t501 && (t485 == t502 && (t486 == t503 && (t487 == t504 && (t488 == t505))))))))))))) && ((t489 == t506 && (t490 == t507)) && (t491 == t508)))) = true := c18
        (try (have c18b1 : decide (t475 = t492 && ((t476 == t493 && (t477 == t494 && (t478 == t495 && (t479 == t496 && (t480 == t497 && (t481 == t498 && (t482 == t499 && (t483 == t500 && (t484 == t501 && (t485 == t502 && (t486 == t503 && (t487 == t504 && (t488 == t505))))))))))))) && ((t489 == t506 && (t490 == t507)) && (t491 == t508)))) = true := by simpa using c18))
        (try (have c18b2 : (t475 == t492 && ((t476 == t493 && (t477 == t494 && (t478 == t495 && (t479 == t496 && (t480 == t497 && (t481 == t498 && (t482 == t499 && (t483 == t500 && (t484 == t501 && (t485 == t502 && (t486 == t503 && (t487 == t504 && (t488 == t505))))))))))))) && ((t489 == t506 && (t490 == t507)) && (t491 == t508)))) = true := by simpa using c18))
        clear c18
        replace H := Option.bind_eq_some_iff.mp H
        obtain ⟨t509, A190, H⟩ := H
        replace H : (some t509) = some true := H
        have A19 := Aside0.mk A190
        clear A190
        have hE := Option.some.inj H
        subst hE
        go_enter Try.func4, Try.ntmps4
        try go_wp2_with (first | ((with_reducible refine gate_dst (N := 8) rfl ?_); refine box_event ?hg (N := 8) ?hd (cs := #[.int .i64 a3_0, .int .i64 a3_1, .int .i64 a3_2, .int .i64 a3_3, .int .i64 a3_4, .int .i64 a3_5, .int .u32 a3_6, .int .u32 a3_7, .int .u32 a3_8, .int .u64 a3_9, .int .u64 a3_10, .int .u64 a3_11, .int .u64 a3_12]) (t := 33) ?hr ?_; (case hd => rfl); (case hg => rfl); (case hr => first | (go_simp; done) | (go_simp; rfl)); intro gb464 hg w20 hbox hb; have n0_ := Aside0.mk (below_step (by repeat (first | (with_reducible first | exact HB.out | apply below_alloc | apply pw_below_drewN | apply below_drew1) | exact HB.out)) hb); have n1_ := Aside0.mk (hbox); have n2_ := Aside0.mk ((by rw [hg]; exact (below_size (by repeat (first | (with_reducible first | exact HB.out | apply below_alloc | apply pw_below_drewN | apply below_drew1) | exact HB.out))) : w.heap.size ≤ gb464)); have n3_ := Aside0.mk ((by rw [hg]; exact (below_size (by repeat (first | (with_reducible first | exact HB.out | apply below_alloc | apply pw_below_drewN | apply below_drew1) | exact HB.out))) : w.heap.size ≤ gb464)); clear HB; have HB := n0_; have BK464 := n1_; have GW464 := n2_; have GE464 := n3_; clear n0_ n1_ n2_ n3_; clear hb hbox hg) | ((with_reducible refine gate_dst (N := 9) rfl ?_); refine box_event ?hg (N := 9) ?hd (cs := #[.int .i64 a4_0, .int .i64 a4_1]) (t := 35) ?hr ?_; (case hd => rfl); (case hg => rfl); (case hr => first | (go_simp; done) | (go_simp; rfl)); intro gb465 hg w21 hbox hb; have n0_ := Aside0.mk (blk_below (g := gb464) (o := .cells #[.int .i64 a3_0, .int .i64 a3_1, .int .i64 a3_2, .int .i64 a3_3, .int .i64 a3_4, .int .i64 a3_5, .int .u32 a3_6, .int .u32 a3_7, .int .u32 a3_8, .int .u64 a3_9, .int .u64 a3_10, .int .u64 a3_11, .int .u64 a3_12] 33 (0, 0)) (by (with_reducible repeat (first | refine blk_drewN ?_ _ | refine blk_drew ?_ | refine blk_alloc ?_ _)); exact BK464.out) hb); have n1_ := Aside0.mk (below_step (by repeat (first | (with_reducible first | exact HB.out | apply below_alloc | apply pw_below_drewN | apply below_drew1 | refine below_set ?_ GE464.out) | exact HB.out)) hb); have n2_ := Aside0.mk (hbox); have n3_ := Aside0.mk ((by rw [hg]; exact (below_size (by repeat (first | (with_reducible first | exact HB.out | apply below_alloc | apply pw_below_drewN | apply below_drew1 | refine below_set ?_ GE464.out) | exact HB.out))) : w.heap.size ≤ gb465)); have n4_ := Aside0.mk ((by rw [hg]; exact (below_size (by repeat (first | (with_reducible first | exact HB.out | apply below_alloc | apply pw_below_drewN | apply below_drew1 | refine below_set ?_ GE464.out) | exact HB.out))) : w.heap.size ≤ gb465)); have n5_ := Aside0.mk ((by rw [hg]; exact Nat.ne_of_lt (blk_lt (g := gb464) (o := .cells #[.int .i64 a3_0, .int .i64 a3_1, .int .i64 a3_2, .int .i64 a3_3, .int .i64 a3_4, .int .i64 a3_5, .int .u32 a3_6, .int .u32 a3_7, .int .u32 a3_8, .int .u64 a3_9, .int .u64 a3_10, .int .u64 a3_11, .int .u64 a3_12] 33 (0, 0)) (by (with_reducible repeat (first | refine blk_drewN ?_ _ | refine blk_drew ?_ | refine blk_alloc ?_ _)); exact BK464.out)) : gb464 ≠ gb465)); have n6_ := Aside0.mk ((by rw [hg]; exact Nat.ne_of_gt (blk_lt (g := gb464) (o := .cells #[.int .i64 a3_0, .int .i64 a3_1, .int .i64 a3_2, .int .i64 a3_3, .int .i64 a3_4, .int .i64 a3_5, .int .u32 a3_6, .int .u32 a3_7, .int .u32 a3_8, .int .u64 a3_9, .int .u64 a3_10, .int .u64 a3_11, .int .u64 a3_12] 33 (0, 0)) (by (with_reducible repeat (first | refine blk_drewN ?_ _ | refine blk_drew ?_ | refine blk_alloc ?_ _)); exact BK464.out)) : gb465 ≠ gb464)); clear BK464; clear HB; have BK464 := n0_; have HB := n1_; have BK465 := n2_; have GW465 := n3_; have GE465 := n4_; have NB464_465 := n5_; have NB465_464 := n6_; clear n0_ n1_ n2_ n3_ n4_ n5_ n6_; clear hb hbox hg) | ((with_reducible refine gate_callee (f := 11) rfl ?_); refine goesL_ (some 12) rfl rfl Try.func11 (by kernel_rfl) rfl #[.slice A0 l0.length c0] rfl (by (try simp only [List.map_toArray, List.map_cons, List.map_nil]); first | done | rfl | (simp only [List.length_drop, List.length_take]; rfl)) ?_; (with_reducible refine (timesynclaw55_long.calls _ _ l0 false _ ?side1 ?side2 A6.out).mono ?_); (case side1 => repeat (first | exact (Kd.C_below HR0.out HB.out) | (with_reducible refine Kd.C_alloc ?_ _) | (with_reducible refine Kd.C_drewN ?_ _) | (with_reducible refine Kd.C_drew ?_))); (case side2 => exact HC0.out); rintro e w' ⟨rfl, ⟨nd, rfl⟩⟩; refine ⟨_, rfl, ?_⟩))
        (try (rw [drewN_self w21]; generalize hq_ : World.drewN w21 _ = w21; have n0_ : Aside0 (w21.heap[gb464]? = some (.cells #[.int .i64 a3_0, .int .i64 a3_1, .int .i64 a3_2, .int .i64 a3_3, .int .i64 a3_4, .int .i64 a3_5, .int .u32 a3_6, .int .u32 a3_7, .int .u32 a3_8, .int .u64 a3_9, .int .u64 a3_10, .int .u64 a3_11, .int .u64 a3_12] 33 (0, 0))) := ⟨by rw [← hq_]; exact (by (with_reducible repeat (first | refine blk_drewN ?_ _ | refine blk_drew ?_ | refine blk_alloc ?_ _)); exact BK464.out)⟩; have n1_ : Aside0 (w21.heap[gb465]? = some (.cells #[.int .i64 a4_0, .int .i64 a4_1] 35 (0, 0))) := ⟨by rw [← hq_]; exact (by (with_reducible repeat (first | refine blk_drewN ?_ _ | refine blk_drew ?_ | refine blk_alloc ?_ _)); exact BK465.out)⟩; have n2_ : Aside0 (Below w.heap.size w w21) := ⟨by rw [← hq_]; exact (by repeat (first | (with_reducible first | exact HB.out | apply below_alloc | apply pw_below_drewN | apply below_drew1 | refine below_set ?_ GE464.out | refine below_set ?_ GE465.out) | exact HB.out))⟩; clear BK464 BK465 HB hq_; have BK464 := n0_; have BK465 := n1_; have HB := n2_; clear n0_ n1_ n2_))
        have n0_ := Aside0.mk (blk_drew BK464.out)
        have n1_ := Aside0.mk (blk_drew BK465.out)
        have n2_ := Aside0.mk (below_drew1 HB.out)
        clear BK464
        clear BK465
        clear HB
        have BK464 := n0_
        have BK465 := n1_
        have HB := n2_
        clear n0_ n1_ n2_
        refine start_ (n := 28) (S := fun w' => w'.cell? ⟨gb464, 0, none⟩ = some (.int .i64 a3_0) ∧ w'.cell? ⟨gb464, 1, none⟩ = some (.int .i64 a3_1) ∧ w'.cell? ⟨gb464, 2, none⟩ = some (.int .i64 a3_2) ∧ w'.cell? ⟨gb464, 3, none⟩ = some (.int .i64 a3_3) ∧ w'.cell? ⟨gb464, 4, none⟩ = some (.int .i64 a3_4) ∧ w'.cell? ⟨gb464, 5, none⟩ = some (.int .i64 a3_5) ∧ w'.cell? ⟨gb464, 6, none⟩ = some (.int .u32 a3_6) ∧ w'.cell? ⟨gb464, 7, none⟩ = some (.int .u32 a3_7) ∧ w'.cell? ⟨gb464, 8, none⟩ = some (.int .u32 a3_8) ∧ w'.cell? ⟨gb464, 9, none⟩ = some (.int .u64 a3_9) ∧ w'.cell? ⟨gb464, 10, none⟩ = some (.int .u64 a3_10) ∧ w'.cell? ⟨gb464, 11, none⟩ = some (.int .u64 a3_11) ∧ w'.cell? ⟨gb464, 12, none⟩ = some (.int .u64 a3_12) ∧ w'.cell? ⟨gb465, 0, none⟩ = some (.int .i64 a4_0) ∧ w'.cell? ⟨gb465, 1, none⟩ = some (.int .i64 a4_1)) (ds := []) #[false, false, false, false, false, false, false, false, false, false, false, false, false, false, false, false, false, false, false, false, false, false, false, false, false, false, false, false] (by kernel_rfl) rfl rfl ⟨(blk_cell BK464.out 0).trans rfl, (blk_cell BK464.out 1).trans rfl, (blk_cell BK464.out 2).trans rfl, (blk_cell BK464.out 3).trans rfl, (blk_cell BK464.out 4).trans rfl, (blk_cell BK464.out 5).trans rfl, (blk_cell BK464.out 6).trans rfl, (blk_cell BK464.out 7).trans rfl, (blk_cell BK464.out 8).trans rfl, (blk_cell BK464.out 9).trans rfl, (blk_cell BK464.out 10).trans rfl, (blk_cell BK464.out 11).trans rfl, (blk_cell BK464.out 12).trans rfl, (blk_cell BK465.out 0).trans rfl, (blk_cell BK465.out 1).trans rfl⟩ (fun hHeld => ?_); refine with_tabW timesynclaw55_FaultApplies.tab3 timesynclaw55_FaultApplies.bits3 (fun HT_ HW_ => ?_)
        generalize w21.drew = w22 at BK464 BK465 HB hHeld ⊢
        refine pure_ (i := 0) (N := some 14) (v := ?_) (a' := ?_) #[true, false, false, false, false, false, false, false, false, false, false, false, false, false, false, false, false, false, false, false, false, false, false, false, false, false, false, false] rfl rfl (any_of HT_.out (by kernel_rfl)) (fun _ _ _ h => h) (Or.inl ⟨by rfl, ?_⟩) ?_ ?_
        rotate_left
        · intro w'
          go_simp
          with_reducible rfl
        rotate_left
        · simp only [Act.put, List.setIfInBounds_toArray, List.set_cons_zero, List.set_cons_succ, i64_w, i32_w]
          rfl
        refine pure_ (i := 1) (N := some 15) (v := ?_) (a' := ?_) #[true, true, false, false, false, false, false, false, false, false, false, false, false, false, false, false, false, false, false, false, false, false, false, false, false, false, false, false] rfl rfl (any_of HT_.out (by kernel_rfl)) (fun _ _ _ h => h) (Or.inl ⟨by rfl, ?_⟩) ?_ ?_
        rotate_left
        · intro w'
          go_simp
          with_reducible rfl
        rotate_left
        · simp only [Act.put, List.setIfInBounds_toArray, List.set_cons_zero, List.set_cons_succ, i64_w, i32_w]
          rfl
        refine pure_ (i := 2) (N := some 16) (v := ?_) (a' := ?_) #[true, true, true, false, false, false, false, false, false, false, false, false, false, false, false, false, false, false, false, false, false, false, false, false, false, false, false, false] rfl rfl (any_of HT_.out (by kernel_rfl)) (fun _ _ _ h => h) (Or.inl ⟨by rfl, ?_⟩) ?_ ?_
        rotate_left
        · intro w'
          go_simp
          with_reducible rfl
        rotate_left
        · simp only [Act.put, List.setIfInBounds_toArray, List.set_cons_zero, List.set_cons_succ, i64_w, i32_w]
          rfl
        refine pure_ (i := 4) (N := some 18) (v := ?_) (a' := ?_) #[true, true, true, false, true, false, false, false, false, false, false, false, false, false, false, false, false, false, false, false, false, false, false, false, false, false, false, false] rfl rfl (any_of HT_.out (by kernel_rfl)) (fun _ _ _ h => h) (Or.inl ⟨by rfl, ?_⟩) ?_ ?_
        rotate_left
        · intro w'
          go_simp
          with_reducible rfl
        rotate_left
        · simp only [Act.put, List.setIfInBounds_toArray, List.set_cons_zero, List.set_cons_succ, i64_w, i32_w]
          rfl
        refine pure_ (i := 5) (N := some 19) (v := ?_) (a' := ?_) #[true, true, true, false, true, true, false, false, false, false, false, false, false, false, false, false, false, false, false, false, false, false, false, false, false, false, false, false] rfl rfl (any_of HT_.out (by kernel_rfl)) (fun _ _ _ h => h) (Or.inl ⟨by rfl, ?_⟩) ?_ ?_
        rotate_left
        · intro w'
          go_simp
          with_reducible rfl
        rotate_left
        · simp only [Act.put, List.setIfInBounds_toArray, List.set_cons_zero, List.set_cons_succ, i64_w, i32_w]
          rfl
        refine pure_ (i := 6) (N := some 20) (v := ?_) (a' := ?_) #[true, true, true, false, true, true, true, false, false, false, false, false, false, false, false, false, false, false, false, false, false, false, false, false, false, false, false, false] rfl rfl (any_of HT_.out (by kernel_rfl)) (fun _ _ _ h => h) (Or.inl ⟨by rfl, ?_⟩) ?_ ?_
        rotate_left
        · intro w'
          go_simp
          with_reducible rfl
        rotate_left
        · simp only [Act.put, List.setIfInBounds_toArray, List.set_cons_zero, List.set_cons_succ, i64_w, i32_w]
          rfl
        refine one_ (i := 3) (N := some 17) #[true, true, true, true, true, true, true, false, false, false, false, false, false, false, false, false, false, false, false, false, false, false, false, false, false, false, false, false] rfl rfl (one_of HT_.out (by kernel_rfl)) (by decide) (fun K hK => ?_)
        refine goes_ Try.func18 (by kernel_rfl) rfl #[.slice A0 l0.length c0, .int .i64 a1, .int .i64 a2] (by rfl) rfl rfl (by (try simp only [List.map_toArray, List.map_cons, List.map_nil]); first | done | rfl | (simp only [List.length_drop, List.length_take]; rfl)) ?_
        with_reducible refine (fault_Active.calls k _ _ l0 a1 a2 t468 _ ?side1 ?side2 A12.out).mono ?_
        (case side1 => repeat (first | exact (Kd.C_below HR0.out HB.out) | (with_reducible refine Kd.C_alloc ?_ _) | (with_reducible refine Kd.C_drewN ?_ _) | (with_reducible refine Kd.C_drew ?_)))
        (case side2 => exact HC0.out)
        rintro e w23 ⟨v469, rfl, ho0, hb⟩
        refine ⟨_, rfl, ?_⟩
        have n0_ := Aside0.mk (Kd.R_lower ho0 (below_size (by repeat (first | (with_reducible first | exact HB.out | apply below_alloc | apply pw_below_drewN | apply below_drew1 | refine below_set ?_ GE464.out | refine below_set ?_ GE465.out) | exact HB.out))))
        have n1_ := Aside0.mk (blk_below (g := gb464) (o := .cells #[.int .i64 a3_0, .int .i64 a3_1, .int .i64 a3_2, .int .i64 a3_3, .int .i64 a3_4, .int .i64 a3_5, .int .u32 a3_6, .int .u32 a3_7, .int .u32 a3_8, .int .u64 a3_9, .int .u64 a3_10, .int .u64 a3_11, .int .u64 a3_12] 33 (0, 0)) (by (with_reducible repeat (first | refine blk_drewN ?_ _ | refine blk_drew ?_ | refine blk_alloc ?_ _)); exact BK464.out) hb)
        have n2_ := Aside0.mk (blk_below (g := gb465) (o := .cells #[.int .i64 a4_0, .int .i64 a4_1] 35 (0, 0)) (by (with_reducible repeat (first | refine blk_drewN ?_ _ | refine blk_drew ?_ | refine blk_alloc ?_ _)); exact BK465.out) hb)
        have n3_ := Aside0.mk (below_step (by repeat (first | (with_reducible first | exact HB.out | apply below_alloc | apply pw_below_drewN | apply below_drew1 | refine below_set ?_ GE464.out | refine below_set ?_ GE465.out) | exact HB.out)) hb)
        clear BK464
        clear BK465
        clear HB
        have HO470 := n0_
        have BK464 := n1_
        have BK465 := n2_
        have HB := n3_
        clear n0_ n1_ n2_ n3_
        (try clear hb)
        (try clear hb2)
        (try clear hk)
        (try clear hi)
        (try clear ho0)
        refine hK.out _ _ ⟨(blk_cell BK464.out 0).trans rfl, (blk_cell BK464.out 1).trans rfl, (blk_cell BK464.out 2).trans rfl, (blk_cell BK464.out 3).trans rfl, (blk_cell BK464.out 4).trans rfl, (blk_cell BK464.out 5).trans rfl, (blk_cell BK464.out 6).trans rfl, (blk_cell BK464.out 7).trans rfl, (blk_cell BK464.out 8).trans rfl, (blk_cell BK464.out 9).trans rfl, (blk_cell BK464.out 10).trans rfl, (blk_cell BK464.out 11).trans rfl, (blk_cell BK464.out 12).trans rfl, (blk_cell BK465.out 0).trans rfl, (blk_cell BK465.out 1).trans rfl⟩ (fun hHeld => ?_)
        clear hK K
        refine norm_ (a' := ?_) ?_ ?_
        rotate_left
        · show Act.put _ (some 17) _ = _
          simp only [Act.put, List.setIfInBounds_toArray, List.set_cons_zero, List.set_cons_succ, i64_w, i32_w]
          rfl
        refine one_ (i := 7) (N := some 21) #[true, true, true, true, true, true, true, true, false, false, false, false, false, false, false, false, false, false, false, false, false, false, false, false, false, false, false, false] rfl rfl (one_of HT_.out (by kernel_rfl)) (by decide) (fun K hK => ?_)
        refine goes_ Try.func19 (by kernel_rfl) rfl #[.slice A0 l0.length c0, .int .i64 a1, .int .i64 a2] (by rfl) rfl rfl (by (try simp only [List.map_toArray, List.map_cons, List.map_nil]); first | done | rfl | (simp only [List.length_drop, List.length_take]; rfl)) ?_
        with_reducible refine (timesyncref55_Active.calls k _ _ l0 a1 a2 t471 _ ?side1 ?side2 A13.out).mono ?_
        (case side1 => repeat (first | exact (Kd.C_below HR0.out HB.out) | (with_reducible refine Kd.C_alloc ?_ _) | (with_reducible refine Kd.C_drewN ?_ _) | (with_reducible refine Kd.C_drew ?_)))
        (case side2 => exact HC0.out)
        rintro e w24 ⟨v472, rfl, ho0, hb⟩
        refine ⟨_, rfl, ?_⟩
        have n0_ := Aside0.mk (Kd.R_elder' (by (with_reducible repeat (first | apply Kd.R_alloc | apply Kd.R_drewN | apply Kd.R_drew)); exact HO470.out) (Kd.R_base ho0) hb)
        have n1_ := Aside0.mk (Kd.R_lower (Kd.R_new' ho0 (Kd.R_lt (by (with_reducible repeat (first | apply Kd.R_alloc | apply Kd.R_drewN | apply Kd.R_drew)); exact HO470.out))) (below_size (by repeat (first | (with_reducible first | exact HB.out | apply below_alloc | apply pw_below_drewN | apply below_drew1 | refine below_set ?_ GE464.out | refine below_set ?_ GE465.out) | exact HB.out))))
        have n2_ := Aside0.mk (blk_below (g := gb464) (o := .cells #[.int .i64 a3_0, .int .i64 a3_1, .int .i64 a3_2, .int .i64 a3_3, .int .i64 a3_4, .int .i64 a3_5, .int .u32 a3_6, .int .u32 a3_7, .int .u32 a3_8, .int .u64 a3_9, .int .u64 a3_10, .int .u64 a3_11, .int .u64 a3_12] 33 (0, 0)) (by (with_reducible repeat (first | refine blk_drewN ?_ _ | refine blk_drew ?_ | refine blk_alloc ?_ _)); exact BK464.out) hb)
        have n3_ := Aside0.mk (blk_below (g := gb465) (o := .cells #[.int .i64 a4_0, .int .i64 a4_1] 35 (0, 0)) (by (with_reducible repeat (first | refine blk_drewN ?_ _ | refine blk_drew ?_ | refine blk_alloc ?_ _)); exact BK465.out) hb)
        have n4_ := Aside0.mk (below_step (by repeat (first | (with_reducible first | exact HB.out | apply below_alloc | apply pw_below_drewN | apply below_drew1 | refine below_set ?_ GE464.out | refine below_set ?_ GE465.out) | exact HB.out)) hb)
        clear HO470
        clear BK464
        clear BK465
        clear HB
        have HO470 := n0_
        have HO473 := n1_
        have BK464 := n2_
        have BK465 := n3_
        have HB := n4_
        clear n0_ n1_ n2_ n3_ n4_
        (try clear hb)
        (try clear hb2)
        (try clear hk)
        (try clear hi)
        (try clear ho0)
        obtain ⟨Ao25, co25, eo25⟩ := Kd.R_slice HO470.out
        (first | subst eo25 | (injection eo25 with f1_ f2_ f3_; have f4_ := f1_.symm; have f5_ := f3_.symm; clear f1_ f2_ f3_; subst f4_; subst f5_))
        obtain ⟨Ao26, co26, eo26⟩ := Kd.R_slice HO473.out
        (first | subst eo26 | (injection eo26 with f1_ f2_ f3_; have f4_ := f1_.symm; have f5_ := f3_.symm; clear f1_ f2_ f3_; subst f4_; subst f5_))
        refine hK.out _ _ ⟨(blk_cell BK464.out 0).trans rfl, (blk_cell BK464.out 1).trans rfl, (blk_cell BK464.out 2).trans rfl, (blk_cell BK464.out 3).trans rfl, (blk_cell BK464.out 4).trans rfl, (blk_cell BK464.out 5).trans rfl, (blk_cell BK464.out 6).trans rfl, (blk_cell BK464.out 7).trans rfl, (blk_cell BK464.out 8).trans rfl, (blk_cell BK464.out 9).trans rfl, (blk_cell BK464.out 10).trans rfl, (blk_cell BK464.out 11).trans rfl, (blk_cell BK464.out 12).trans rfl, (blk_cell BK465.out 0).trans rfl, (blk_cell BK465.out 1).trans rfl⟩ (fun hHeld => ?_)
        clear hK K
        refine norm_ (a' := ?_) ?_ ?_
        rotate_left
        · show Act.put _ (some 21) _ = _
          simp only [Act.put, List.setIfInBounds_toArray, List.set_cons_zero, List.set_cons_succ, i64_w, i32_w]
          rfl
        refine one_ (i := 8) (N := some 22) #[true, true, true, true, true, true, true, true, true, false, false, false, false, false, false, false, false, false, false, false, false, false, false, false, false, false, false, false] rfl rfl (one_of HT_.out (by kernel_rfl)) (by decide) (fun K hK => ?_)
        refine goes_ Try.func15 (by kernel_rfl) rfl #[.slice Ao25 t468.length co25, .slice Ao26 t471.length co26] (by rfl) rfl rfl (by (try simp only [List.map_toArray, List.map_cons, List.map_nil]); first | done | rfl | (simp only [List.length_drop, List.length_take]; rfl)) ?_
        with_reducible refine (slices_Equal_int_int.calls k _ _ t468 _ _ t471 true _ ?side1 ?side2 ?side3 ?side4 A14.out).mono ?_
        (case side1 => repeat (first | exact (Kd.R_reads' HO470.out).2.2 | (with_reducible refine Kd.C_alloc ?_ _) | (with_reducible refine Kd.C_drewN ?_ _) | (with_reducible refine Kd.C_drew ?_)))
        (case side2 => exact (Kd.R_reads' HO470.out).2.1)
        (case side3 => repeat (first | exact (Kd.R_reads' HO473.out).2.2 | (with_reducible refine Kd.C_alloc ?_ _) | (with_reducible refine Kd.C_drewN ?_ _) | (with_reducible refine Kd.C_drew ?_)))
        (case side4 => exact (Kd.R_reads' HO473.out).2.1)
        rintro e w' ⟨rfl, ⟨nd, rfl⟩⟩
        refine ⟨_, rfl, ?_⟩
        refine hK.out _ _ ⟨(blk_cell BK464.out 0).trans rfl, (blk_cell BK464.out 1).trans rfl, (blk_cell BK464.out 2).trans rfl, (blk_cell BK464.out 3).trans rfl, (blk_cell BK464.out 4).trans rfl, (blk_cell BK464.out 5).trans rfl, (blk_cell BK464.out 6).trans rfl, (blk_cell BK464.out 7).trans rfl, (blk_cell BK464.out 8).trans rfl, (blk_cell BK464.out 9).trans rfl, (blk_cell BK464.out 10).trans rfl, (blk_cell BK464.out 11).trans rfl, (blk_cell BK464.out 12).trans rfl, (blk_cell BK465.out 0).trans rfl, (blk_cell BK465.out 1).trans rfl⟩ (fun hHeld => ?_)
        clear hK K
        refine norm_ (a' := ?_) ?_ ?_
        rotate_left
        · show Act.put _ (some 22) _ = _
          simp only [Act.put, List.setIfInBounds_toArray, List.set_cons_zero, List.set_cons_succ, i64_w, i32_w]
          rfl
        refine pure_ (i := 9) (N := some 23) (v := ?_) (a' := ?_) #[true, true, true, true, true, true, true, true, true, true, false, false, false, false, false, false, false, false, false, false, false, false, false, false, false, false, false, false] rfl rfl (any_of HT_.out (by kernel_rfl)) (fun _ _ _ h => h) (Or.inl ⟨by rfl, ?_⟩) ?_ ?_
        rotate_left
        · intro w'
          go_simp
          with_reducible rfl
        rotate_left
        · simp only [Act.put, List.setIfInBounds_toArray, List.set_cons_zero, List.set_cons_succ, i64_w, i32_w]
          rfl
        refine pure_ (i := 10) (N := some 24) (v := ?_) (a' := ?_) #[true, true, true, true, true, true, true, true, true, true, true, false, false, false, false, false, false, false, false, false, false, false, false, false, false, false, false, false] rfl rfl (any_of HT_.out (by kernel_rfl)) (fun _ _ _ h => h) (Or.inl ⟨by rfl, ?_⟩) ?_ ?_
        rotate_left
        · intro w'
          go_simp
          with_reducible rfl
        rotate_left
        · simp only [Act.put, List.setIfInBounds_toArray, List.set_cons_zero, List.set_cons_succ, i64_w, i32_w]
          rfl
        refine pure_ (i := 11) (N := some 25) (v := ?_) (a' := ?_) #[true, true, true, true, true, true, true, true, true, true, true, true, false, false, false, false, false, false, false, false, false, false, false, false, false, false, false, false] rfl rfl (any_of HT_.out (by kernel_rfl)) (fun _ _ _ h => h) (Or.inl ⟨by rfl, ?_⟩) ?_ ?_
        rotate_left
        · intro w'
          go_simp
          with_reducible rfl
        rotate_left
        · simp only [Act.put, List.setIfInBounds_toArray, List.set_cons_zero, List.set_cons_succ, i64_w, i32_w]
          rfl
        refine pure_ (i := 12) (N := some 26) (v := ?_) (a' := ?_) #[true, true, true, true, true, true, true, true, true, true, true, true, true, false, false, false, false, false, false, false, false, false, false, false, false, false, false, false] rfl rfl (any_of HT_.out (by kernel_rfl)) (fun _ _ _ h => h) (Or.inl ⟨by rfl, ?_⟩) ?_ ?_
        rotate_left
        · intro w'
          go_simp
          with_reducible rfl
        rotate_left
        · simp only [Act.put, List.setIfInBounds_toArray, List.set_cons_zero, List.set_cons_succ, i64_w, i32_w]
          rfl
        refine pure_ (i := 16) (N := some 30) (v := ?_) (a' := ?_) #[true, true, true, true, true, true, true, true, true, true, true, true, true, false, false, false, true, false, false, false, false, false, false, false, false, false, false, false] rfl rfl (any_of HT_.out (by kernel_rfl)) (fun _ _ _ h => h) (Or.inl ⟨by rfl, ?_⟩) ?_ ?_
        rotate_left
        · intro w'
          go_simp
          with_reducible rfl
        rotate_left
        · simp only [Act.put, List.setIfInBounds_toArray, List.set_cons_zero, List.set_cons_succ, i64_w, i32_w]
          rfl
        refine pure_ (i := 17) (N := some 31) (v := ?_) (a' := ?_) #[true, true, true, true, true, true, true, true, true, true, true, true, true, false, false, false, true, true, false, false, false, false, false, false, false, false, false, false] rfl rfl (any_of HT_.out (by kernel_rfl)) (fun _ _ _ h => h) (Or.inl ⟨by rfl, ?_⟩) ?_ ?_
        rotate_left
        · intro w'
          go_simp
          with_reducible rfl
        rotate_left
        · simp only [Act.put, List.setIfInBounds_toArray, List.set_cons_zero, List.set_cons_succ, i64_w, i32_w]
          rfl
        refine pure_ (i := 18) (N := some 32) (v := ?_) (a' := ?_) #[true, true, true, true, true, true, true, true, true, true, true, true, true, false, false, false, true, true, true, false, false, false, false, false, false, false, false, false] rfl rfl (any_of HT_.out (by kernel_rfl)) (fun _ _ _ h => h) (Or.inl ⟨by rfl, ?_⟩) ?_ ?_
        rotate_left
        · intro w'
          go_simp
          with_reducible rfl
        rotate_left
        · simp only [Act.put, List.setIfInBounds_toArray, List.set_cons_zero, List.set_cons_succ, i64_w, i32_w]
          rfl
        refine take_ (i := 13) (N := some 27) (v := ?_) (a' := ?_) #[true, true, true, true, true, true, true, true, true, true, true, true, true, true, false, false, true, true, true, false, false, false, false, false, false, false, false, false] rfl rfl (take_ofW HT_.out HW_.out (by kernel_rfl)) (fun _ _ _ h => h) (Or.inl ⟨by rfl, ?_⟩) hHeld ?_ ?_
        rotate_left
        · rintro w' ⟨s0, s1, s2, s3, s4, s5, s6, s7, s8, s9, s10, s11, s12, s13, s14⟩
          go_simp
          with_reducible rfl
        rotate_left
        · simp only [Act.put, List.setIfInBounds_toArray, List.set_cons_zero, List.set_cons_succ, i64_w, i32_w]
          rfl
        refine take_ (i := 14) (N := some 28) (v := ?_) (a' := ?_) #[true, true, true, true, true, true, true, true, true, true, true, true, true, true, true, false, true, true, true, false, false, false, false, false, false, false, false, false] rfl rfl (take_ofW HT_.out HW_.out (by kernel_rfl)) (fun _ _ _ h => h) (Or.inl ⟨by rfl, ?_⟩) hHeld ?_ ?_
        rotate_left
        · rintro w' ⟨s0, s1, s2, s3, s4, s5, s6, s7, s8, s9, s10, s11, s12, s13, s14⟩
          go_simp
          with_reducible rfl
        rotate_left
        · simp only [Act.put, List.setIfInBounds_toArray, List.set_cons_zero, List.set_cons_succ, i64_w, i32_w]
          rfl
        refine take_ (i := 19) (N := some 33) (v := ?_) (a' := ?_) #[true, true, true, true, true, true, true, true, true, true, true, true, true, true, true, false, true, true, true, true, false, false, false, false, false, false, false, false] rfl rfl (take_ofW HT_.out HW_.out (by kernel_rfl)) (fun _ _ _ h => h) (Or.inl ⟨by rfl, ?_⟩) hHeld ?_ ?_
        rotate_left
        · rintro w' ⟨s0, s1, s2, s3, s4, s5, s6, s7, s8, s9, s10, s11, s12, s13, s14⟩
          go_simp
          with_reducible rfl
        rotate_left
        · simp only [Act.put, List.setIfInBounds_toArray, List.set_cons_zero, List.set_cons_succ, i64_w, i32_w]
          rfl
        refine take_ (i := 20) (N := some 34) (v := ?_) (a' := ?_) #[true, true, true, true, true, true, true, true, true, true, true, true, true, true, true, false, true, true, true, true, true, false, false, false, false, false, false, false] rfl rfl (take_ofW HT_.out HW_.out (by kernel_rfl)) (fun _ _ _ h => h) (Or.inl ⟨by rfl, ?_⟩) hHeld ?_ ?_
        rotate_left
        · rintro w' ⟨s0, s1, s2, s3, s4, s5, s6, s7, s8, s9, s10, s11, s12, s13, s14⟩
          go_simp
          with_reducible rfl
        rotate_left
        · simp only [Act.put, List.setIfInBounds_toArray, List.set_cons_zero, List.set_cons_succ, i64_w, i32_w]
          rfl
        refine one_ (i := 15) (N := some 29) #[true, true, true, true, true, true, true, true, true, true, true, true, true, true, true, true, true, true, true, true, true, false, false, false, false, false, false, false] rfl rfl (one_of HT_.out (by kernel_rfl)) (by decide) (fun K hK => ?_)
        refine goes_ Try.func20 (by kernel_rfl) rfl #[.slice A0 l0.length c0, .int .i64 a1, .int .i64 a2, .agg #[.int .i64 a3_0, .int .i64 a3_1, .int .i64 a3_2, .int .i64 a3_3, .int .i64 a3_4, .int .i64 a3_5, .int .u32 a3_6, .int .u32 a3_7, .int .u32 a3_8, .int .u64 a3_9, .int .u64 a3_10, .int .u64 a3_11, .int .u64 a3_12], .agg #[.int .i64 a4_0, .int .i64 a4_1]] (by rfl) rfl rfl (by (try simp only [List.map_toArray, List.map_cons, List.map_nil]); first | done | rfl | (simp only [List.length_drop, List.length_take]; rfl)) ?_
        with_reducible refine (fault_Apply.calls k _ _ l0 a1 a2 a3_0 a3_1 a3_2 a3_3 a3_4 a3_5 a3_6 a3_7 a3_8 a3_9 a3_10 a3_11 a3_12 a4_0 a4_1 t475 t476 t477 t478 t479 t480 t481 t482 t483 t484 t485 t486 t487 t488 t489 t490 t491 _ ?side1 ?side2 A16.out).mono ?_
        (case side1 => repeat (first | exact (Kd.C_below HR0.out (by repeat (first | (with_reducible first | exact HB.out | apply below_alloc | apply pw_below_drewN | apply below_drew1 | refine below_set ?_ GE464.out | refine below_set ?_ GE465.out) | exact HB.out))) | (with_reducible refine Kd.C_alloc ?_ _) | (with_reducible refine Kd.C_drewN ?_ _) | (with_reducible refine Kd.C_drew ?_)))
        (case side2 => exact HC0.out)
        rintro e w27 ⟨rfl, hb⟩
        refine ⟨_, rfl, ?_⟩
        have n0_ := Aside0.mk (Kd.R_below (by (with_reducible repeat (first | apply Kd.R_alloc | apply Kd.R_drewN | apply Kd.R_drew)); exact HO470.out) hb)
        have n1_ := Aside0.mk (Kd.R_below (by (with_reducible repeat (first | apply Kd.R_alloc | apply Kd.R_drewN | apply Kd.R_drew)); exact HO473.out) hb)
        have n2_ := Aside0.mk (blk_below (g := gb464) (o := .cells #[.int .i64 a3_0, .int .i64 a3_1, .int .i64 a3_2, .int .i64 a3_3, .int .i64 a3_4, .int .i64 a3_5, .int .u32 a3_6, .int .u32 a3_7, .int .u32 a3_8, .int .u64 a3_9, .int .u64 a3_10, .int .u64 a3_11, .int .u64 a3_12] 33 (0, 0)) (by (with_reducible repeat (first | refine blk_drewN ?_ _ | refine blk_drew ?_ | refine blk_alloc ?_ _)); exact BK464.out) hb)
        have n3_ := Aside0.mk (blk_below (g := gb465) (o := .cells #[.int .i64 a4_0, .int .i64 a4_1] 35 (0, 0)) (by (with_reducible repeat (first | refine blk_drewN ?_ _ | refine blk_drew ?_ | refine blk_alloc ?_ _)); exact BK465.out) hb)
        have n4_ := Aside0.mk (below_step (by repeat (first | (with_reducible first | exact HB.out | apply below_alloc | apply pw_below_drewN | apply below_drew1 | refine below_set ?_ GE464.out | refine below_set ?_ GE465.out) | exact HB.out)) hb)
        clear HO470
        clear HO473
        clear BK464
        clear BK465
        clear HB
        have HO470 := n0_
        have HO473 := n1_
        have BK464 := n2_
        have BK465 := n3_
        have HB := n4_
        clear n0_ n1_ n2_ n3_ n4_
        (try clear hb)
        (try clear hb2)
        (try clear hk)
        (try clear hi)
        refine hK.out _ _ ⟨(blk_cell BK464.out 0).trans rfl, (blk_cell BK464.out 1).trans rfl, (blk_cell BK464.out 2).trans rfl, (blk_cell BK464.out 3).trans rfl, (blk_cell BK464.out 4).trans rfl, (blk_cell BK464.out 5).trans rfl, (blk_cell BK464.out 6).trans rfl, (blk_cell BK464.out 7).trans rfl, (blk_cell BK464.out 8).trans rfl, (blk_cell BK464.out 9).trans rfl, (blk_cell BK464.out 10).trans rfl, (blk_cell BK464.out 11).trans rfl, (blk_cell BK464.out 12).trans rfl, (blk_cell BK465.out 0).trans rfl, (blk_cell BK465.out 1).trans rfl⟩ (fun hHeld => ?_)
        clear hK K
        refine norm_ (a' := ?_) ?_ ?_
        rotate_left
        · show Act.put _ (some 29) _ = _
          simp only [Act.put, List.setIfInBounds_toArray, List.set_cons_zero, List.set_cons_succ, i64_w, i32_w]
          rfl
        refine one_ (i := 21) (N := some 35) #[true, true, true, true, true, true, true, true, true, true, true, true, true, true, true, true, true, true, true, true, true, true, false, false, false, false, false, false] rfl rfl (one_of HT_.out (by kernel_rfl)) (by decide) (fun K hK => ?_)
        refine goes_ Try.func21 (by kernel_rfl) rfl #[.slice A0 l0.length c0, .int .i64 a1, .int .i64 a2, .agg #[.int .i64 a3_0, .int .i64 a3_1, .int .i64 a3_2, .int .i64 a3_3, .int .i64 a3_4, .int .i64 a3_5, .int .u32 a3_6, .int .u32 a3_7, .int .u32 a3_8, .int .u64 a3_9, .int .u64 a3_10, .int .u64 a3_11, .int .u64 a3_12], .agg #[.int .i64 a4_0, .int .i64 a4_1]] (by rfl) rfl rfl (by (try simp only [List.map_toArray, List.map_cons, List.map_nil]); first | done | rfl | (simp only [List.length_drop, List.length_take]; rfl)) ?_
        with_reducible refine (timesyncref55_Apply.calls k _ _ l0 a1 a2 a3_0 a3_1 a3_2 a3_3 a3_4 a3_5 a3_6 a3_7 a3_8 a3_9 a3_10 a3_11 a3_12 a4_0 a4_1 t492 t493 t494 t495 t496 t497 t498 t499 t500 t501 t502 t503 t504 t505 t506 t507 t508 _ ?side1 ?side2 A17.out).mono ?_
        (case side1 => repeat (first | exact (Kd.C_below HR0.out HB.out) | (with_reducible refine Kd.C_alloc ?_ _) | (with_reducible refine Kd.C_drewN ?_ _) | (with_reducible refine Kd.C_drew ?_)))
        (case side2 => exact HC0.out)
        rintro e w28 ⟨rfl, hb⟩
        refine ⟨_, rfl, ?_⟩
        have n0_ := Aside0.mk (Kd.R_below (by (with_reducible repeat (first | apply Kd.R_alloc | apply Kd.R_drewN | apply Kd.R_drew)); exact HO470.out) hb)
        have n1_ := Aside0.mk (Kd.R_below (by (with_reducible repeat (first | apply Kd.R_alloc | apply Kd.R_drewN | apply Kd.R_drew)); exact HO473.out) hb)
        have n2_ := Aside0.mk (blk_below (g := gb464) (o := .cells #[.int .i64 a3_0, .int .i64 a3_1, .int .i64 a3_2, .int .i64 a3_3, .int .i64 a3_4, .int .i64 a3_5, .int .u32 a3_6, .int .u32 a3_7, .int .u32 a3_8, .int .u64 a3_9, .int .u64 a3_10, .int .u64 a3_11, .int .u64 a3_12] 33 (0, 0)) (by (with_reducible repeat (first | refine blk_drewN ?_ _ | refine blk_drew ?_ | refine blk_alloc ?_ _)); exact BK464.out) hb)
        have n3_ := Aside0.mk (blk_below (g := gb465) (o := .cells #[.int .i64 a4_0, .int .i64 a4_1] 35 (0, 0)) (by (with_reducible repeat (first | refine blk_drewN ?_ _ | refine blk_drew ?_ | refine blk_alloc ?_ _)); exact BK465.out) hb)
        have n4_ := Aside0.mk (below_step (by repeat (first | (with_reducible first | exact HB.out | apply below_alloc | apply pw_below_drewN | apply below_drew1 | refine below_set ?_ GE464.out | refine below_set ?_ GE465.out) | exact HB.out)) hb)
        clear HO470
        clear HO473
        clear BK464
        clear BK465
        clear HB
        have HO470 := n0_
        have HO473 := n1_
        have BK464 := n2_
        have BK465 := n3_
        have HB := n4_
        clear n0_ n1_ n2_ n3_ n4_
        (try clear hb)
        (try clear hb2)
        (try clear hk)
        (try clear hi)
        refine hK.out _ _ ⟨(blk_cell BK464.out 0).trans rfl, (blk_cell BK464.out 1).trans rfl, (blk_cell BK464.out 2).trans rfl, (blk_cell BK464.out 3).trans rfl, (blk_cell BK464.out 4).trans rfl, (blk_cell BK464.out 5).trans rfl, (blk_cell BK464.out 6).trans rfl, (blk_cell BK464.out 7).trans rfl, (blk_cell BK464.out 8).trans rfl, (blk_cell BK464.out 9).trans rfl, (blk_cell BK464.out 10).trans rfl, (blk_cell BK464.out 11).trans rfl, (blk_cell BK464.out 12).trans rfl, (blk_cell BK465.out 0).trans rfl, (blk_cell BK465.out 1).trans rfl⟩ (fun hHeld => ?_)
        clear hK K
        refine norm_ (a' := ?_) ?_ ?_
        rotate_left
        · show Act.put _ (some 35) _ = _
          simp only [Act.put, List.setIfInBounds_toArray, List.set_cons_zero, List.set_cons_succ, i64_w, i32_w]
          rfl
        refine pure_ (i := 22) (N := some 36) (v := ?_) (a' := ?_) #[true, true, true, true, true, true, true, true, true, true, true, true, true, true, true, true, true, true, true, true, true, true, true, false, false, false, false, false] rfl rfl (any_of HT_.out (by kernel_rfl)) (fun _ _ _ h => h) (Or.inl ⟨by rfl, ?_⟩) ?_ ?_
        rotate_left
        · intro w'
          go_simp
          with_reducible rfl
        rotate_left
        · simp only [Act.put, List.setIfInBounds_toArray, List.set_cons_zero, List.set_cons_succ, i64_w, i32_w]
          rfl
        refine pure_ (i := 23) (N := some 37) (v := ?_) (a' := ?_) #[true, true, true, true, true, true, true, true, true, true, true, true, true, true, true, true, true, true, true, true, true, true, true, true, false, false, false, false] rfl rfl (any_of HT_.out (by kernel_rfl)) (fun _ _ _ h => h) (Or.inl ⟨by rfl, ?_⟩) ?_ ?_
        rotate_left
        · intro w'
          go_simp
          with_reducible rfl
        rotate_left
        · simp only [Act.put, List.setIfInBounds_toArray, List.set_cons_zero, List.set_cons_succ, i64_w, i32_w]
          rfl
        refine pure_ (i := 24) (N := some 38) (v := ?_) (a' := ?_) #[true, true, true, true, true, true, true, true, true, true, true, true, true, true, true, true, true, true, true, true, true, true, true, true, true, false, false, false] rfl rfl (any_of HT_.out (by kernel_rfl)) (fun _ _ _ h => h) (Or.inl ⟨by rfl, ?_⟩) ?_ ?_
        rotate_left
        · intro w'
          go_simp
          with_reducible rfl
        rotate_left
        · simp only [Act.put, List.setIfInBounds_toArray, List.set_cons_zero, List.set_cons_succ, i64_w, i32_w]
          rfl
        refine one_ (i := 25) (N := some 39) #[true, true, true, true, true, true, true, true, true, true, true, true, true, true, true, true, true, true, true, true, true, true, true, true, true, true, false, false] rfl rfl (one_of HT_.out (by kernel_rfl)) (by decide) (fun K hK => ?_)
        refine goes_ Try.func12 (by kernel_rfl) rfl #[] (by rfl) rfl rfl (by (try simp only [List.map_toArray, List.map_cons, List.map_nil]); first | done | rfl | (simp only [List.length_drop, List.length_take]; rfl)) ?_
        with_reducible refine (timesynclaw55_awake.calls  true _ A19.out).mono ?_
        rintro e w29 ⟨rfl, hb⟩
        refine ⟨_, rfl, ?_⟩
        have n0_ := Aside0.mk (Kd.R_below (by (with_reducible repeat (first | apply Kd.R_alloc | apply Kd.R_drewN | apply Kd.R_drew)); exact HO470.out) hb)
        have n1_ := Aside0.mk (Kd.R_below (by (with_reducible repeat (first | apply Kd.R_alloc | apply Kd.R_drewN | apply Kd.R_drew)); exact HO473.out) hb)
        have n2_ := Aside0.mk (blk_below (g := gb464) (o := .cells #[.int .i64 a3_0, .int .i64 a3_1, .int .i64 a3_2, .int .i64 a3_3, .int .i64 a3_4, .int .i64 a3_5, .int .u32 a3_6, .int .u32 a3_7, .int .u32 a3_8, .int .u64 a3_9, .int .u64 a3_10, .int .u64 a3_11, .int .u64 a3_12] 33 (0, 0)) (by (with_reducible repeat (first | refine blk_drewN ?_ _ | refine blk_drew ?_ | refine blk_alloc ?_ _)); exact BK464.out) hb)
        have n3_ := Aside0.mk (blk_below (g := gb465) (o := .cells #[.int .i64 a4_0, .int .i64 a4_1] 35 (0, 0)) (by (with_reducible repeat (first | refine blk_drewN ?_ _ | refine blk_drew ?_ | refine blk_alloc ?_ _)); exact BK465.out) hb)
        have n4_ := Aside0.mk (below_step (by repeat (first | (with_reducible first | exact HB.out | apply below_alloc | apply pw_below_drewN | apply below_drew1 | refine below_set ?_ GE464.out | refine below_set ?_ GE465.out) | exact HB.out)) hb)
        clear HO470
        clear HO473
        clear BK464
        clear BK465
        clear HB
        have HO470 := n0_
        have HO473 := n1_
        have BK464 := n2_
        have BK465 := n3_
        have HB := n4_
        clear n0_ n1_ n2_ n3_ n4_
        (try clear hb)
        (try clear hb2)
        (try clear hk)
        (try clear hi)
        refine hK.out _ _ ⟨(blk_cell BK464.out 0).trans rfl, (blk_cell BK464.out 1).trans rfl, (blk_cell BK464.out 2).trans rfl, (blk_cell BK464.out 3).trans rfl, (blk_cell BK464.out 4).trans rfl, (blk_cell BK464.out 5).trans rfl, (blk_cell BK464.out 6).trans rfl, (blk_cell BK464.out 7).trans rfl, (blk_cell BK464.out 8).trans rfl, (blk_cell BK464.out 9).trans rfl, (blk_cell BK464.out 10).trans rfl, (blk_cell BK464.out 11).trans rfl, (blk_cell BK464.out 12).trans rfl, (blk_cell BK465.out 0).trans rfl, (blk_cell BK465.out 1).trans rfl⟩ (fun hHeld => ?_)
        clear hK K
        refine norm_ (a' := ?_) ?_ ?_
        rotate_left
        · show Act.put _ (some 39) _ = _
          simp only [Act.put, List.setIfInBounds_toArray, List.set_cons_zero, List.set_cons_succ, i64_w, i32_w]
          rfl
        refine pure_ (i := 26) (N := some 40) (v := ?_) (a' := ?_) #[true, true, true, true, true, true, true, true, true, true, true, true, true, true, true, true, true, true, true, true, true, true, true, true, true, true, true, false] rfl rfl (any_of HT_.out (by kernel_rfl)) (fun _ _ _ h => h) (Or.inl ⟨by rfl, ?_⟩) ?_ ?_
        rotate_left
        · intro w'
          go_simp
          with_reducible rfl
        rotate_left
        · simp only [Act.put, List.setIfInBounds_toArray, List.set_cons_zero, List.set_cons_succ, i64_w, i32_w]
          rfl
        refine pure_ (i := 27) (N := some 10) (v := ?_) (a' := ?_) #[true, true, true, true, true, true, true, true, true, true, true, true, true, true, true, true, true, true, true, true, true, true, true, true, true, true, true, true] rfl rfl (any_of HT_.out (by kernel_rfl)) (fun _ _ _ h => h) (Or.inl ⟨by rfl, ?_⟩) ?_ ?_
        rotate_left
        · intro w'
          go_simp
          with_reducible rfl
        rotate_left
        · simp only [Act.put, List.setIfInBounds_toArray, List.set_cons_zero, List.set_cons_succ, i64_w, i32_w]
          rfl
        refine done_ (done_of HT_.out (by kernel_rfl)) ?_
        try go_wp2
        go_ret
        exact ⟨by first | rfl | (simp [errW_none, errW_some] <;> rfl) | (simp [*, errW_none, errW_some] <;> rfl), by repeat (first | (with_reducible first | exact HB.out | apply below_alloc | apply pw_below_drewN | apply below_drew1 | refine below_set ?_ GE464.out | refine below_set ?_ GE465.out) | exact HB.out)⟩
      · rw [if_neg c18] at H
        have c18b0 : (t475 == t492 && ((t476 == t493 && (t477 == t494 && (t478 == t495 && (t479 == t496 && (t480 == t497 && (t481 == t498 && (t482 == t499 && (t483 == t500 && (t484 == t501 && (t485 == t502 && (t486 == t503 && (t487 == t504 && (t488 == t505))))))))))))) && ((t489 == t506 && (t490 == t507)) && (t491 == t508)))) = false := by simpa using c18
        (try (have c18b1 : decide (t475 = t492 && ((t476 == t493 && (t477 == t494 && (t478 == t495 && (t479 == t496 && (t480 == t497 && (t481 == t498 && (t482 == t499 && (t483 == t500 && (t484 == t501 && (t485 == t502 && (t486 == t503 && (t487 == t504 && (t488 == t505))))))))))))) && ((t489 == t506 && (t490 == t507)) && (t491 == t508)))) = false := by simpa using c18))
        (try (have c18b2 : (t475 == t492 && ((t476 == t493 && (t477 == t494 && (t478 == t495 && (t479 == t496 && (t480 == t497 && (t481 == t498 && (t482 == t499 && (t483 == t500 && (t484 == t501 && (t485 == t502 && (t486 == t503 && (t487 == t504 && (t488 == t505))))))))))))) && ((t489 == t506 && (t490 == t507)) && (t491 == t508)))) = false := by simpa using c18))
        (try (have c18b3 : ¬ (t475 = t492 && ((t476 == t493 && (t477 == t494 && (t478 == t495 && (t479 == t496 && (t480 == t497 && (t481 == t498 && (t482 == t499 && (t483 == t500 && (t484 == t501 && (t485 == t502 && (t486 == t503 && (t487 == t504 && (t488 == t505))))))))))))) && ((t489 == t506 && (t490 == t507)) && (t491 == t508)))) := by simpa using c18))
        clear c18
        exact absurd H (by simp)
    · replace c15 := Bool.eq_false_iff.mpr c15
      subst c15
      have H1 : (some false) = some true := by rw [if_neg (show ¬ (false = true) by decide)] at H; exact H
      clear H
      have H := H1
      clear H1
      exact absurd H (by simp)
end Go.Proofs.Ytcnckfhibmlioaa.PFa
