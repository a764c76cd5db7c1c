/- The walk of the reference's Apply (printed). -/
import Derived.Test.YtcnckfhibmlioaaPFax0
import Derived.Test.YtcnckfhibmlioaaFaP14
import Derived.Test.YtcnckfhibmlioaaFaOne
namespace Go.Proofs.Ytcnckfhibmlioaa.PFa
open Go.RowKit Go.Proofs.YtcnckfhibmlioaaW.PrintWords Go.Proofs.YtcnckfhibmlioaaW.PrintLast Go.Proofs.YtcnckfhibmlioaaW.PrintMore
attribute [local go_sem] max2_int min2_int max_two min_two max_three min_three max_four min_four   -- for this text's walks alone
set_option linter.unusedVariables false
set_option linter.unusedSimpArgs false

theorem below_grew1 {w W W1 : World} {g : Nat} (h : Below w.heap.size w W) (k : Ob.Grew W W1 (some g)) (hg : w.heap.size ≤ g) : Below w.heap.size w W1 :=
  ⟨k.out.os.trans h.os, k.out.tape.trans h.tape, k.out.output.trans h.output, Nat.le_trans h.size k.out.size, fun i hi => (k.out.block i (Nat.lt_of_lt_of_le hi h.size) (fun e => by cases e; omega)).trans (h.block i hi)⟩
theorem ld_row {P : Program} {a : Act} {o : Oper} {W : World} (ty : TypeId) (x : Operand) (ho : o.op = .load ty x) {g : Nat} {t : TypeId} {cs : Array Value} (d : TypeDesc) (hx : a.eval x = .pointer (some ⟨g, 0, none⟩)) (hg : W.heap[g]? = some (.cells cs t (0, 0)))
    (hu : P.underlying ty = some d) (hd : (match d with | .struct _ | .array _ _ => true | _ => false) = true) (hi : (P.info? ty).map (·.size) = some cs.size) : (execOp a.eval o).run P W = .ok (.value (.agg cs)) W := by
  unfold execOp
  simp only [ho, hx, Instr.loadAt, Instr.sureAddr, Sem.run_bind, Sem.run_pure, Result.andThen_ok, run_loadVar_row W g t ty cs (0, 0) d hg hu hd hi]
theorem st_row {P : Program} {a : Act} {o : Oper} {W : World} (ty : TypeId) (x y : Operand) (ho : o.op = .store ty x y) {g : Nat} {t : TypeId} {old cs : Array Value} (hx : a.eval x = .pointer (some ⟨g, 0, none⟩)) (hy : a.eval y = .agg cs) (hg : W.heap[g]? = some (.cells old t (0, 0)))
    (hi : (P.info? ty).map (·.size) = some cs.size) (hold : old.size = cs.size) (h1 : cs.all (·.oneCell') = true) : (execOp a.eval o).run P W = .ok .skip (World.setRow W g cs) := by
  unfold execOp
  simp only [ho, hx, hy, Instr.storeAt, Instr.sureAddr, Sem.run_bind, Sem.run_pure, Result.andThen_ok, run_storeVar_row W g t ty old cs hg hi hold h1]
theorem inf38 : (Try.prog.info? 38).map (·.size) = some 17 := by kernel_rfl
/-! ### timesyncref55_Apply: function 21 -/
def timesyncref55_Apply.l0 : Nat → List (S46) → Int → List Int → Int → Bool → Int → Int → Int → Int → Int → Int → Int → Int → Int → Int → Int → Int → Int → Int → Int → Int → Option (Bool × Int × Int × Int × Int × Int × Int × Int × Int × Int × Int × Int × Int × Int × Int × Int × Int)
  | 0, _, _, _, _, _, _, _, _, _, _, _, _, _, _, _, _, _, _, _, _, _ => none
  | k + 1, x0, x2, x12, x13, x442000, x442001, x442002, x442003, x442004, x442005, x442006, x442007, x442008, x442009, x442010, x442011, x442012, x442013, x442014, x442015, x442016 => if x13 < (x12.length : Int) then (if 0 ≤ x13 then (if 0 ≤ (rd x12 x13) then (if (rd x12 x13) < (x0.length : Int) then ((timesyncref55_one.f k x442000 x442001 x442002 x442003 x442004 x442005 x442006 x442007 x442008 x442009 x442010 x442011 x442012 x442013 x442014 x442015 x442016 ((rd_T46 x0 (rd x12 x13)).f0) ((rd_T46 x0 (rd x12 x13)).f1) ((rd_T46 x0 (rd x12 x13)).f2) ((rd_T46 x0 (rd x12 x13)).f3) ((rd_T46 x0 (rd x12 x13)).f4) x2).bind fun bt447 => (timesyncref55_Apply.l0 k x0 x2 x12 (wrap64 (x13 + 1)) bt447.1 bt447.2.1 bt447.2.2.1 bt447.2.2.2.1 bt447.2.2.2.2.1 bt447.2.2.2.2.2.1 bt447.2.2.2.2.2.2.1 bt447.2.2.2.2.2.2.2.1 bt447.2.2.2.2.2.2.2.2.1 bt447.2.2.2.2.2.2.2.2.2.1 bt447.2.2.2.2.2.2.2.2.2.2.1 bt447.2.2.2.2.2.2.2.2.2.2.2.1 bt447.2.2.2.2.2.2.2.2.2.2.2.2.1 bt447.2.2.2.2.2.2.2.2.2.2.2.2.2.1 bt447.2.2.2.2.2.2.2.2.2.2.2.2.2.2.1 bt447.2.2.2.2.2.2.2.2.2.2.2.2.2.2.2.1 bt447.2.2.2.2.2.2.2.2.2.2.2.2.2.2.2.2)) else (none)) else (none)) else (none)) else (some (x442000, x442001, x442002, x442003, x442004, x442005, x442006, x442007, x442008, x442009, x442010, x442011, x442012, x442013, x442014, x442015, x442016))
def timesyncref55_Apply.f (k : Nat) (l0 : List (S46)) (a1 : Int) (a2 : Int) (a3_0 : Int) (a3_1 : Int) (a3_2 : Int) (a3_3 : Int) (a3_4 : Int) (a3_5 : Int) (a3_6 : Int) (a3_7 : Int) (a3_8 : Int) (a3_9 : Int) (a3_10 : Int) (a3_11 : Int) (a3_12 : Int) (a4_0 : Int) (a4_1 : Int) : Option (Bool × Int × Int × Int × Int × Int × Int × Int × Int × Int × Int × Int × Int × Int × Int × Int × Int) := (timesyncref55_Active.f k l0 a1 a2).bind fun t442 => (timesyncref55_Apply.l0 k l0 a2 t442 0 false a3_0 a3_1 a3_2 a3_3 a3_4 a3_5 a3_6 a3_7 a3_8 a3_9 a3_10 a3_11 a3_12 a4_0 a4_1 0)
theorem timesyncref55_Apply.mono_l : ∀ k, (∀ y0 y1 y2 y3 y4 y5 y6 y7 y8 y9 y10 y11 y12 y13 y14 y15 y16 y17 y18 y19 y20, LeO (timesyncref55_Apply.l0 k y0 y1 y2 y3 y4 y5 y6 y7 y8 y9 y10 y11 y12 y13 y14 y15 y16 y17 y18 y19 y20) (timesyncref55_Apply.l0 (k + 1) y0 y1 y2 y3 y4 y5 y6 y7 y8 y9 y10 y11 y12 y13 y14 y15 y16 y17 y18 y19 y20))
  | 0 => fun _ _ _ _ _ _ _ _ _ _ _ _ _ _ _ _ _ _ _ _ _ r h => by simp [timesyncref55_Apply.l0] at h
  | k + 1 => by
    have ih0 := timesyncref55_Apply.mono_l k
    · intro y0 y1 y2 y3 y4 y5 y6 y7 y8 y9 y10 y11 y12 y13 y14 y15 y16 y17 y18 y19 y20
      unfold timesyncref55_Apply.l0
      repeat' first
      | (with_reducible exact ih0 _ _ _ _ _ _ _ _ _ _ _ _ _ _ _ _ _ _ _ _ _)
      | (with_reducible exact timesyncref55_Active.mono _ _ _ _)
      | (with_reducible exact timesyncref55_one.mono _ _ _ _ _ _ _ _ _ _ _ _ _ _ _ _ _ _ _ _ _ _ _ _)
      | (with_reducible exact LeO.refl _)
      | (with_reducible exact LeO.none _)
      | (with_reducible refine LeO.ite ?_ ?_)
      | (with_reducible refine LeO.bind ?_ (fun _ => ?_))
      | exact ih0 _ _ _ _ _ _ _ _ _ _ _ _ _ _ _ _ _ _ _ _ _
      | exact timesyncref55_Active.mono _ _ _ _
      | exact timesyncref55_one.mono _ _ _ _ _ _ _ _ _ _ _ _ _ _ _ _ _ _ _ _ _ _ _ _
      | exact LeO.none _
      | refine LeO.ite ?_ ?_
      | refine LeO.bind ?_ (fun _ => ?_)
theorem timesyncref55_Apply.mono : ∀ a0 a1 a2 a3 a4 a5 a6 a7 a8 a9 a10 a11 a12 a13 a14 a15 a16 a17 k, LeO (timesyncref55_Apply.f k a0 a1 a2 a3 a4 a5 a6 a7 a8 a9 a10 a11 a12 a13 a14 a15 a16 a17) (timesyncref55_Apply.f (k + 1) a0 a1 a2 a3 a4 a5 a6 a7 a8 a9 a10 a11 a12 a13 a14 a15 a16 a17) := by
  intro a0 a1 a2 a3 a4 a5 a6 a7 a8 a9 a10 a11 a12 a13 a14 a15 a16 a17 k
  have ih0 := timesyncref55_Apply.mono_l k
  unfold timesyncref55_Apply.f
  repeat' first
      | (with_reducible exact ih0 _ _ _ _ _ _ _ _ _ _ _ _ _ _ _ _ _ _ _ _ _)
      | (with_reducible exact timesyncref55_Active.mono _ _ _ _)
      | (with_reducible exact timesyncref55_one.mono _ _ _ _ _ _ _ _ _ _ _ _ _ _ _ _ _ _ _ _ _ _ _ _)
      | (with_reducible exact LeO.refl _)
      | (with_reducible exact LeO.none _)
      | (with_reducible refine LeO.ite ?_ ?_)
      | (with_reducible refine LeO.bind ?_ (fun _ => ?_))
      | exact ih0 _ _ _ _ _ _ _ _ _ _ _ _ _ _ _ _ _ _ _ _ _
      | exact timesyncref55_Active.mono _ _ _ _
      | exact timesyncref55_one.mono _ _ _ _ _ _ _ _ _ _ _ _ _ _ _ _ _ _ _ _ _ _ _ _
      | exact LeO.none _
      | refine LeO.ite ?_ ?_
      | refine LeO.bind ?_ (fun _ => ?_)
def timesyncref55_Apply.T6 : Bool × List (List Nat × List Nat) := (true, [([], []), ([], []), ([], []), ([], []), ([2, 3], [2, 3]), ([4], [4]), ([1, 5], [1, 5]), ([6], [6]), ([], []), ([0, 7, 8], [0, 7, 8]), ([9, 9, 0, 1, 2, 3, 4, 5, 6, 7, 8, 9], [9])])
def timesyncref55_Apply.B6 : List Nat := [0, 0, 0, 0, 12, 28, 62, 126, 0, 511, 1023]
theorem timesyncref55_Apply.tab6 : rtab .any (opsOf Try.f21 6) = timesyncref55_Apply.T6 := by kernel_rfl
theorem timesyncref55_Apply.bits6 : waitsOk timesyncref55_Apply.T6.2 timesyncref55_Apply.B6 = true := by kernel_rfl
set_option maxHeartbeats 8000000 in
set_option maxRecDepth 100000 in
theorem timesyncref55_Apply.calls (k : Nat) (A0 : Option Addr) (c0 : Nat) (l0 : List (S46)) (a1 : Int) (a2 : Int) (a3_0 : Int) (a3_1 : Int) (a3_2 : Int) (a3_3 : Int) (a3_4 : Int) (a3_5 : Int) (a3_6 : Int) (a3_7 : Int) (a3_8 : Int) (a3_9 : Int) (a3_10 : Int) (a3_11 : Int) (a3_12 : Int) (a4_0 : Int) (a4_1 : Int) (r1 : Bool) (r2 : Int) (r3 : Int) (r4 : Int) (r5 : Int) (r6 : Int) (r7 : Int) (r8 : Int) (r9 : Int) (r10 : Int) (r11 : Int) (r12 : Int) (r13 : Int) (r14 : Int) (r15 : Int) (r16 : Int) (r17 : Int) (w : World) (hr0 : Kd.C k46 w A0 l0.length l0) (hc0 : l0.length ≤ c0) (h : timesyncref55_Apply.f k l0 a1 a2 a3_0 a3_1 a3_2 a3_3 a3_4 a3_5 a3_6 a3_7 a3_8 a3_9 a3_10 a3_11 a3_12 a4_0 a4_1 = some (r1, r2, r3, r4, r5, r6, r7, r8, r9, r10, r11, r12, r13, r14, r15, r16, r17)) :
    Calls Try.prog 21 #[.slice A0 l0.length c0, .int .i64 a1, .int .i64 a2, .agg #[.int .i64 a3_0, .int .i64 a3_1, .int .i64 a3_2, .int .i64 a3_3, .int .i64 a3_4, .int .i64 a3_5, .int .u32 a3_6, .int .u32 a3_7, .int .u32 a3_8, .int .u64 a3_9, .int .u64 a3_10, .int .u64 a3_11, .int .u64 a3_12], .agg #[.int .i64 a4_0, .int .i64 a4_1]] w fun e w' => e = .returned (.agg #[.bool r1, .int .i64 r2, .int .i64 r3, .int .i64 r4, .int .i64 r5, .int .i64 r6, .int .i64 r7, .int .u32 r8, .int .u32 r9, .int .u32 r10, .int .u64 r11, .int .u64 r12, .int .u64 r13, .int .u64 r14, .int .i64 r15, .int .i64 r16, .int .i64 r17]) ∧ Below w.heap.size w w' := by
  have hu33 := Try.underlying33
  have hu35 := Try.underlying35
  have hu38 := Try.underlying38
  have hu46 := Try.underlying46
  have HR0 := Aside0.mk hr0
  have HC0 := Aside0.mk hc0
  clear hr0 hc0
  have HB := Aside0.mk (Below.refl w.heap.size w)
  have H : ((timesyncref55_Active.f k l0 a1 a2).bind fun t442 => (timesyncref55_Apply.l0 k l0 a2 t442 0 false a3_0 a3_1 a3_2 a3_3 a3_4 a3_5 a3_6 a3_7 a3_8 a3_9 a3_10 a3_11 a3_12 a4_0 a4_1 0)) = some (r1, r2, r3, r4, r5, r6, r7, r8, r9, r10, r11, r12, r13, r14, r15, r16, r17) := h
  clear h
  replace H := Option.bind_eq_some_iff.mp H
  obtain ⟨t442, A60, H⟩ := H
  replace H : (timesyncref55_Apply.l0 k l0 a2 t442 0 false a3_0 a3_1 a3_2 a3_3 a3_4 a3_5 a3_6 a3_7 a3_8 a3_9 a3_10 a3_11 a3_12 a4_0 a4_1 0) = some (r1, r2, r3, r4, r5, r6, r7, r8, r9, r10, r11, r12, r13, r14, r15, r16, r17) := H
  have A6 := Aside0.mk A60
  clear A60
  have H' := Aside0.mk H
  clear H
  go_enter Try.func21, Try.ntmps21
  go_wp2_with (first | ((with_reducible refine gate_dst (N := 8) rfl ?_); refine box_event ?hg (N := 8) ?hd (cs := #[.int .i64 a3_0, .int .i64 a3_1, .int .i64 a3_2, .int .i64 a3_3, .int .i64 a3_4, .int .i64 a3_5, .int .u32 a3_6, .int .u32 a3_7, .int .u32 a3_8, .int .u64 a3_9, .int .u64 a3_10, .int .u64 a3_11, .int .u64 a3_12]) (t := 33) ?hr ?_; (case hd => rfl); (case hg => rfl); (case hr => first | (go_simp; done) | (go_simp; rfl)); intro gb438 hg w7 hbox hb; have n0_ := Aside0.mk (below_step (by repeat (first | (with_reducible first | exact HB.out | apply below_alloc | apply pw_below_drewN | apply below_drew1) | exact HB.out)) hb); have n1_ := Aside0.mk (hbox); have n2_ := Aside0.mk ((by rw [hg]; exact (below_size (by repeat (first | (with_reducible first | exact HB.out | apply below_alloc | apply pw_below_drewN | apply below_drew1) | exact HB.out))) : w.heap.size ≤ gb438)); have n3_ := Aside0.mk ((by rw [hg]; exact (below_size (by repeat (first | (with_reducible first | exact HB.out | apply below_alloc | apply pw_below_drewN | apply below_drew1) | exact HB.out))) : w.heap.size ≤ gb438)); clear HB; have HB := n0_; have BK438 := n1_; have GW438 := n2_; have GE438 := n3_; clear n0_ n1_ n2_ n3_; clear hb hbox hg) | ((with_reducible refine gate_dst (N := 9) rfl ?_); refine box_event ?hg (N := 9) ?hd (cs := #[.int .i64 a4_0, .int .i64 a4_1]) (t := 35) ?hr ?_; (case hd => rfl); (case hg => rfl); (case hr => first | (go_simp; done) | (go_simp; rfl)); intro gb439 hg w8 hbox hb; have n0_ := Aside0.mk (blk_below (g := gb438) (o := .cells #[.int .i64 a3_0, .int .i64 a3_1, .int .i64 a3_2, .int .i64 a3_3, .int .i64 a3_4, .int .i64 a3_5, .int .u32 a3_6, .int .u32 a3_7, .int .u32 a3_8, .int .u64 a3_9, .int .u64 a3_10, .int .u64 a3_11, .int .u64 a3_12] 33 (0, 0)) (by (with_reducible repeat (first | refine blk_drewN ?_ _ | refine blk_drew ?_ | refine blk_alloc ?_ _)); exact BK438.out) hb); have n1_ := Aside0.mk (below_step (by repeat (first | (with_reducible first | exact HB.out | apply below_alloc | apply pw_below_drewN | apply below_drew1 | refine below_set ?_ GE438.out) | exact HB.out)) hb); have n2_ := Aside0.mk (hbox); have n3_ := Aside0.mk ((by rw [hg]; exact (below_size (by repeat (first | (with_reducible first | exact HB.out | apply below_alloc | apply pw_below_drewN | apply below_drew1 | refine below_set ?_ GE438.out) | exact HB.out))) : w.heap.size ≤ gb439)); have n4_ := Aside0.mk ((by rw [hg]; exact (below_size (by repeat (first | (with_reducible first | exact HB.out | apply below_alloc | apply pw_below_drewN | apply below_drew1 | refine below_set ?_ GE438.out) | exact HB.out))) : w.heap.size ≤ gb439)); have n5_ := Aside0.mk ((by rw [hg]; exact Nat.ne_of_lt (blk_lt (g := gb438) (o := .cells #[.int .i64 a3_0, .int .i64 a3_1, .int .i64 a3_2, .int .i64 a3_3, .int .i64 a3_4, .int .i64 a3_5, .int .u32 a3_6, .int .u32 a3_7, .int .u32 a3_8, .int .u64 a3_9, .int .u64 a3_10, .int .u64 a3_11, .int .u64 a3_12] 33 (0, 0)) (by (with_reducible repeat (first | refine blk_drewN ?_ _ | refine blk_drew ?_ | refine blk_alloc ?_ _)); exact BK438.out)) : gb438 ≠ gb439)); have n6_ := Aside0.mk ((by rw [hg]; exact Nat.ne_of_gt (blk_lt (g := gb438) (o := .cells #[.int .i64 a3_0, .int .i64 a3_1, .int .i64 a3_2, .int .i64 a3_3, .int .i64 a3_4, .int .i64 a3_5, .int .u32 a3_6, .int .u32 a3_7, .int .u32 a3_8, .int .u64 a3_9, .int .u64 a3_10, .int .u64 a3_11, .int .u64 a3_12] 33 (0, 0)) (by (with_reducible repeat (first | refine blk_drewN ?_ _ | refine blk_drew ?_ | refine blk_alloc ?_ _)); exact BK438.out)) : gb439 ≠ gb438)); clear BK438; clear HB; have BK438 := n0_; have HB := n1_; have BK439 := n2_; have GW439 := n3_; have GE439 := n4_; have NB438_439 := n5_; have NB439_438 := n6_; clear n0_ n1_ n2_ n3_ n4_ n5_ n6_; clear hb hbox hg) | ((with_reducible refine gate_dst (N := 10) rfl ?_); refine box_event ?hg (N := 10) ?hd (cs := #[.bool false, .int .i64 0, .int .i64 0, .int .i64 0, .int .i64 0, .int .i64 0, .int .i64 0, .int .u32 0, .int .u32 0, .int .u32 0, .int .u64 0, .int .u64 0, .int .u64 0, .int .u64 0, .int .i64 0, .int .i64 0, .int .i64 0]) (t := 38) ?hr ?_; (case hd => rfl); (case hg => rfl); (case hr => first | (go_simp; done) | (go_simp; rfl)); intro gb440 hg w9 hbox hb; have n0_ := Aside0.mk (blk_below (g := gb438) (o := .cells #[.int .i64 a3_0, .int .i64 a3_1, .int .i64 a3_2, .int .i64 a3_3, .int .i64 a3_4, .int .i64 a3_5, .int .u32 a3_6, .int .u32 a3_7, .int .u32 a3_8, .int .u64 a3_9, .int .u64 a3_10, .int .u64 a3_11, .int .u64 a3_12] 33 (0, 0)) (by (with_reducible repeat (first | refine blk_drewN ?_ _ | refine blk_drew ?_ | refine blk_alloc ?_ _)); exact BK438.out) hb); have n1_ := Aside0.mk (blk_below (g := gb439) (o := .cells #[.int .i64 a4_0, .int .i64 a4_1] 35 (0, 0)) (by (with_reducible repeat (first | refine blk_drewN ?_ _ | refine blk_drew ?_ | refine blk_alloc ?_ _)); exact BK439.out) hb); have n2_ := Aside0.mk (below_step (by repeat (first | (with_reducible first | exact HB.out | apply below_alloc | apply pw_below_drewN | apply below_drew1 | refine below_set ?_ GE438.out | refine below_set ?_ GE439.out) | exact HB.out)) hb); have n3_ := Aside0.mk (hbox); have n4_ := Aside0.mk ((by rw [hg]; exact (below_size (by repeat (first | (with_reducible first | exact HB.out | apply below_alloc | apply pw_below_drewN | apply below_drew1 | refine below_set ?_ GE438.out | refine below_set ?_ GE439.out) | exact HB.out))) : w.heap.size ≤ gb440)); have n5_ := Aside0.mk ((by rw [hg]; exact (below_size (by repeat (first | (with_reducible first | exact HB.out | apply below_alloc | apply pw_below_drewN | apply below_drew1 | refine below_set ?_ GE438.out | refine below_set ?_ GE439.out) | exact HB.out))) : w.heap.size ≤ gb440)); have n6_ := Aside0.mk ((by rw [hg]; exact Nat.ne_of_lt (blk_lt (g := gb438) (o := .cells #[.int .i64 a3_0, .int .i64 a3_1, .int .i64 a3_2, .int .i64 a3_3, .int .i64 a3_4, .int .i64 a3_5, .int .u32 a3_6, .int .u32 a3_7, .int .u32 a3_8, .int .u64 a3_9, .int .u64 a3_10, .int .u64 a3_11, .int .u64 a3_12] 33 (0, 0)) (by (with_reducible repeat (first | refine blk_drewN ?_ _ | refine blk_drew ?_ | refine blk_alloc ?_ _)); exact BK438.out)) : gb438 ≠ gb440)); have n7_ := Aside0.mk ((by rw [hg]; exact Nat.ne_of_gt (blk_lt (g := gb438) (o := .cells #[.int .i64 a3_0, .int .i64 a3_1, .int .i64 a3_2, .int .i64 a3_3, .int .i64 a3_4, .int .i64 a3_5, .int .u32 a3_6, .int .u32 a3_7, .int .u32 a3_8, .int .u64 a3_9, .int .u64 a3_10, .int .u64 a3_11, .int .u64 a3_12] 33 (0, 0)) (by (with_reducible repeat (first | refine blk_drewN ?_ _ | refine blk_drew ?_ | refine blk_alloc ?_ _)); exact BK438.out)) : gb440 ≠ gb438)); have n8_ := Aside0.mk ((by rw [hg]; exact Nat.ne_of_lt (blk_lt (g := gb439) (o := .cells #[.int .i64 a4_0, .int .i64 a4_1] 35 (0, 0)) (by (with_reducible repeat (first | refine blk_drewN ?_ _ | refine blk_drew ?_ | refine blk_alloc ?_ _)); exact BK439.out)) : gb439 ≠ gb440)); have n9_ := Aside0.mk ((by rw [hg]; exact Nat.ne_of_gt (blk_lt (g := gb439) (o := .cells #[.int .i64 a4_0, .int .i64 a4_1] 35 (0, 0)) (by (with_reducible repeat (first | refine blk_drewN ?_ _ | refine blk_drew ?_ | refine blk_alloc ?_ _)); exact BK439.out)) : gb440 ≠ gb439)); clear BK438; clear BK439; clear HB; have BK438 := n0_; have BK439 := n1_; have HB := n2_; have BK440 := n3_; have GW440 := n4_; have GE440 := n5_; have NB438_440 := n6_; have NB440_438 := n7_; have NB439_440 := n8_; have NB440_439 := n9_; clear n0_ n1_ n2_ n3_ n4_ n5_ n6_ n7_ n8_ n9_; clear hb hbox hg; have hnb10 := NB438_439.out; have hnc10 := NB439_438.out; have hnb11 := NB438_440.out; have hnc11 := NB440_438.out; have hcz12_0 : w9.cell? ⟨gb438, 0, none⟩ = some (.int .i64 a3_0) := (blk_cell BK438.out 0).trans rfl; have hcz12_1 : w9.cell? ⟨gb438, 1, none⟩ = some (.int .i64 a3_1) := (blk_cell BK438.out 1).trans rfl; have hcz12_2 : w9.cell? ⟨gb438, 2, none⟩ = some (.int .i64 a3_2) := (blk_cell BK438.out 2).trans rfl; have hcz12_3 : w9.cell? ⟨gb438, 3, none⟩ = some (.int .i64 a3_3) := (blk_cell BK438.out 3).trans rfl; have hcz12_4 : w9.cell? ⟨gb438, 4, none⟩ = some (.int .i64 a3_4) := (blk_cell BK438.out 4).trans rfl; have hcz12_5 : w9.cell? ⟨gb438, 5, none⟩ = some (.int .i64 a3_5) := (blk_cell BK438.out 5).trans rfl; have hcz12_6 : w9.cell? ⟨gb438, 6, none⟩ = some (.int .u32 a3_6) := (blk_cell BK438.out 6).trans rfl; have hcz12_7 : w9.cell? ⟨gb438, 7, none⟩ = some (.int .u32 a3_7) := (blk_cell BK438.out 7).trans rfl; have hcz12_8 : w9.cell? ⟨gb438, 8, none⟩ = some (.int .u32 a3_8) := (blk_cell BK438.out 8).trans rfl; have hcz12_9 : w9.cell? ⟨gb438, 9, none⟩ = some (.int .u64 a3_9) := (blk_cell BK438.out 9).trans rfl; have hcz12_10 : w9.cell? ⟨gb438, 10, none⟩ = some (.int .u64 a3_10) := (blk_cell BK438.out 10).trans rfl; have hcz12_11 : w9.cell? ⟨gb438, 11, none⟩ = some (.int .u64 a3_11) := (blk_cell BK438.out 11).trans rfl; have hcz12_12 : w9.cell? ⟨gb438, 12, none⟩ = some (.int .u64 a3_12) := (blk_cell BK438.out 12).trans rfl; have hfz12_0 := blk_frozen BK438.out 0; have hfz12_1 := blk_frozen BK438.out 1; have hfz12_2 := blk_frozen BK438.out 2; have hfz12_3 := blk_frozen BK438.out 3; have hfz12_4 := blk_frozen BK438.out 4; have hfz12_5 := blk_frozen BK438.out 5; have hfz12_6 := blk_frozen BK438.out 6; have hfz12_7 := blk_frozen BK438.out 7; have hfz12_8 := blk_frozen BK438.out 8; have hfz12_9 := blk_frozen BK438.out 9; have hfz12_10 := blk_frozen BK438.out 10; have hfz12_11 := blk_frozen BK438.out 11; have hfz12_12 := blk_frozen BK438.out 12; have hnb13 := NB439_440.out; have hnc13 := NB440_439.out; have hcz14_0 : w9.cell? ⟨gb439, 0, none⟩ = some (.int .i64 a4_0) := (blk_cell BK439.out 0).trans rfl; have hcz14_1 : w9.cell? ⟨gb439, 1, none⟩ = some (.int .i64 a4_1) := (blk_cell BK439.out 1).trans rfl; have hfz14_0 := blk_frozen BK439.out 0; have hfz14_1 := blk_frozen BK439.out 1) | ((with_reducible refine gate_dst (N := 11) rfl ?_); refine box_event ?hg (N := 11) ?hd (cs := #[.bool false, .int .i64 0, .int .i64 0, .int .i64 0, .int .i64 0, .int .i64 0, .int .i64 0, .int .u32 0, .int .u32 0, .int .u32 0, .int .u64 0, .int .u64 0, .int .u64 0, .int .u64 0, .int .i64 0, .int .i64 0, .int .i64 0]) (t := 38) ?hr ?_; (case hd => rfl); (case hg => rfl); (case hr => first | (go_simp; done) | (go_simp; rfl)); intro gb441 hg w15 hbox hb; have n0_ := Aside0.mk (blk_below (g := gb438) (o := .cells #[.int .i64 a3_0, .int .i64 a3_1, .int .i64 a3_2, .int .i64 a3_3, .int .i64 a3_4, .int .i64 a3_5, .int .u32 a3_6, .int .u32 a3_7, .int .u32 a3_8, .int .u64 a3_9, .int .u64 a3_10, .int .u64 a3_11, .int .u64 a3_12] 33 (0, 0)) (by (with_reducible repeat (first | refine blk_drewN ?_ _ | refine blk_drew ?_ | refine blk_alloc ?_ _)); exact BK438.out) hb); have n1_ := Aside0.mk (blk_below (g := gb439) (o := .cells #[.int .i64 a4_0, .int .i64 a4_1] 35 (0, 0)) (by (with_reducible repeat (first | refine blk_drewN ?_ _ | refine blk_drew ?_ | refine blk_alloc ?_ _)); exact BK439.out) hb); have n2_ := Aside0.mk (blk_below (g := gb440) (o := .cells #[.bool false, .int .i64 0, .int .i64 0, .int .i64 0, .int .i64 0, .int .i64 0, .int .i64 0, .int .u32 0, .int .u32 0, .int .u32 0, .int .u64 0, .int .u64 0, .int .u64 0, .int .u64 0, .int .i64 0, .int .i64 0, .int .i64 0] 38 (0, 0)) (by (with_reducible repeat (first | refine blk_drewN ?_ _ | refine blk_drew ?_ | refine blk_alloc ?_ _)); exact BK440.out) hb); have n3_ := Aside0.mk (below_step (by repeat (first | (with_reducible first | exact HB.out | apply below_alloc | apply pw_below_drewN | apply below_drew1 | refine below_set ?_ GE438.out | refine below_set ?_ GE439.out | refine below_set ?_ GE440.out) | exact HB.out)) hb); have n4_ := Aside0.mk (hbox); have n5_ := Aside0.mk ((by rw [hg]; exact (below_size (by repeat (first | (with_reducible first | exact HB.out | apply below_alloc | apply pw_below_drewN | apply below_drew1 | refine below_set ?_ GE438.out | refine below_set ?_ GE439.out | refine below_set ?_ GE440.out) | exact HB.out))) : w.heap.size ≤ gb441)); have n6_ := Aside0.mk ((by rw [hg]; exact (below_size (by repeat (first | (with_reducible first | exact HB.out | apply below_alloc | apply pw_below_drewN | apply below_drew1 | refine below_set ?_ GE438.out | refine below_set ?_ GE439.out | refine below_set ?_ GE440.out) | exact HB.out))) : w.heap.size ≤ gb441)); have n7_ := Aside0.mk ((by rw [hg]; exact Nat.ne_of_lt (blk_lt (g := gb438) (o := .cells #[.int .i64 a3_0, .int .i64 a3_1, .int .i64 a3_2, .int .i64 a3_3, .int .i64 a3_4, .int .i64 a3_5, .int .u32 a3_6, .int .u32 a3_7, .int .u32 a3_8, .int .u64 a3_9, .int .u64 a3_10, .int .u64 a3_11, .int .u64 a3_12] 33 (0, 0)) (by (with_reducible repeat (first | refine blk_drewN ?_ _ | refine blk_drew ?_ | refine blk_alloc ?_ _)); exact BK438.out)) : gb438 ≠ gb441)); have n8_ := Aside0.mk ((by rw [hg]; exact Nat.ne_of_gt (blk_lt (g := gb438) (o := .cells #[.int .i64 a3_0, .int .i64 a3_1, .int .i64 a3_2, .int .i64 a3_3, .int .i64 a3_4, .int .i64 a3_5, .int .u32 a3_6, .int .u32 a3_7, .int .u32 a3_8, .int .u64 a3_9, .int .u64 a3_10, .int .u64 a3_11, .int .u64 a3_12] 33 (0, 0)) (by (with_reducible repeat (first | refine blk_drewN ?_ _ | refine blk_drew ?_ | refine blk_alloc ?_ _)); exact BK438.out)) : gb441 ≠ gb438)); have n9_ := Aside0.mk ((by rw [hg]; exact Nat.ne_of_lt (blk_lt (g := gb439) (o := .cells #[.int .i64 a4_0, .int .i64 a4_1] 35 (0, 0)) (by (with_reducible repeat (first | refine blk_drewN ?_ _ | refine blk_drew ?_ | refine blk_alloc ?_ _)); exact BK439.out)) : gb439 ≠ gb441)); have n10_ := Aside0.mk ((by rw [hg]; exact Nat.ne_of_gt (blk_lt (g := gb439) (o := .cells #[.int .i64 a4_0, .int .i64 a4_1] 35 (0, 0)) (by (with_reducible repeat (first | refine blk_drewN ?_ _ | refine blk_drew ?_ | refine blk_alloc ?_ _)); exact BK439.out)) : gb441 ≠ gb439)); have n11_ := Aside0.mk ((by rw [hg]; exact Nat.ne_of_lt (blk_lt (g := gb440) (o := .cells #[.bool false, .int .i64 0, .int .i64 0, .int .i64 0, .int .i64 0, .int .i64 0, .int .i64 0, .int .u32 0, .int .u32 0, .int .u32 0, .int .u64 0, .int .u64 0, .int .u64 0, .int .u64 0, .int .i64 0, .int .i64 0, .int .i64 0] 38 (0, 0)) (by (with_reducible repeat (first | refine blk_drewN ?_ _ | refine blk_drew ?_ | refine blk_alloc ?_ _)); exact BK440.out)) : gb440 ≠ gb441)); have n12_ := Aside0.mk ((by rw [hg]; exact Nat.ne_of_gt (blk_lt (g := gb440) (o := .cells #[.bool false, .int .i64 0, .int .i64 0, .int .i64 0, .int .i64 0, .int .i64 0, .int .i64 0, .int .u32 0, .int .u32 0, .int .u32 0, .int .u64 0, .int .u64 0, .int .u64 0, .int .u64 0, .int .i64 0, .int .i64 0, .int .i64 0] 38 (0, 0)) (by (with_reducible repeat (first | refine blk_drewN ?_ _ | refine blk_drew ?_ | refine blk_alloc ?_ _)); exact BK440.out)) : gb441 ≠ gb440)); clear BK438; clear BK439; clear BK440; clear HB; have BK438 := n0_; have BK439 := n1_; have BK440 := n2_; have HB := n3_; have BK441 := n4_; have GW441 := n5_; have GE441 := n6_; have NB438_441 := n7_; have NB441_438 := n8_; have NB439_441 := n9_; have NB441_439 := n10_; have NB440_441 := n11_; have NB441_440 := n12_; clear n0_ n1_ n2_ n3_ n4_ n5_ n6_ n7_ n8_ n9_ n10_ n11_ n12_; clear hb hbox hg; have hnb16 := NB441_438.out; have hnc16 := NB438_441.out; have hnb17 := NB441_439.out; have hnc17 := NB439_441.out; have hnb18 := NB441_440.out; have hnc18 := NB440_441.out) | ((with_reducible refine gate_callee (f := 19) rfl ?_); refine goesL_ (some 20) rfl rfl Try.func19 (by kernel_rfl) rfl #[.slice A0 l0.length c0, .int .i64 a1, .int .i64 a2] rfl (by (try simp only [List.map_toArray, List.map_cons, List.map_nil]); first | done | rfl | (simp only [List.length_drop, List.length_take]; rfl)) ?_; (with_reducible refine (timesyncref55_Active.calls k _ _ l0 a1 a2 t442 _ ?side1 ?side2 A6.out).mono ?_); (case side1 => exact Kd.C_below HR0.out (by repeat (first | (with_reducible first | exact HB.out | apply below_alloc | apply pw_below_drewN | apply below_drew1 | refine below_set ?_ GE438.out | refine below_set ?_ GE439.out | refine below_set ?_ GE440.out | refine below_set ?_ GE441.out) | exact HB.out))); (case side2 => exact HC0.out); rintro e w20 ⟨v443, rfl, ho0, hb⟩; refine ⟨_, rfl, ?_⟩; have n0_ := Aside0.mk (Kd.R_lower ho0 (below_size (by repeat (first | (with_reducible first | exact HB.out | apply below_alloc | apply pw_below_drewN | apply below_drew1 | refine below_set ?_ GE438.out | refine below_set ?_ GE439.out | refine below_set ?_ GE440.out | refine below_set ?_ GE441.out) | exact HB.out)))); have n1_ := Aside0.mk (blk_below (g := gb438) (o := .cells #[.int .i64 a3_0, .int .i64 a3_1, .int .i64 a3_2, .int .i64 a3_3, .int .i64 a3_4, .int .i64 a3_5, .int .u32 a3_6, .int .u32 a3_7, .int .u32 a3_8, .int .u64 a3_9, .int .u64 a3_10, .int .u64 a3_11, .int .u64 a3_12] 33 (0, 0)) (by (with_reducible repeat (first | refine blk_drewN ?_ _ | refine blk_drew ?_ | refine blk_alloc ?_ _)); exact BK438.out) hb); have n2_ := Aside0.mk (blk_below (g := gb439) (o := .cells #[.int .i64 a4_0, .int .i64 a4_1] 35 (0, 0)) (by (with_reducible repeat (first | refine blk_drewN ?_ _ | refine blk_drew ?_ | refine blk_alloc ?_ _)); exact BK439.out) hb); have n3_ := Aside0.mk (blk_below (g := gb440) (o := .cells #[.bool false, .int .i64 0, .int .i64 0, .int .i64 0, .int .i64 0, .int .i64 0, .int .i64 0, .int .u32 0, .int .u32 0, .int .u32 0, .int .u64 0, .int .u64 0, .int .u64 0, .int .u64 0, .int .i64 0, .int .i64 0, .int .i64 0] 38 (0, 0)) (by (with_reducible repeat (first | refine blk_drewN ?_ _ | refine blk_drew ?_ | refine blk_alloc ?_ _)); exact BK440.out) hb); have n4_ := Aside0.mk (blk_below (g := gb441) (o := .cells #[.bool false, .int .i64 a3_0, .int .i64 a3_1, .int .i64 a3_2, .int .i64 a3_3, .int .i64 a3_4, .int .i64 a3_5, .int .u32 a3_6, .int .u32 a3_7, .int .u32 a3_8, .int .u64 a3_9, .int .u64 a3_10, .int .u64 a3_11, .int .u64 a3_12, .int .i64 a4_0, .int .i64 a4_1, .int .i64 0] 38 (0, 0)) (by (with_reducible repeat (first | refine blk_drewN ?_ _ | refine blk_drew ?_ | refine blk_alloc ?_ _)); exact BK441.out) hb); have n5_ := Aside0.mk (below_step (by repeat (first | (with_reducible first | exact HB.out | apply below_alloc | apply pw_below_drewN | apply below_drew1 | refine below_set ?_ GE438.out | refine below_set ?_ GE439.out | refine below_set ?_ GE440.out | refine below_set ?_ GE441.out) | exact HB.out)) hb); clear BK438; clear BK439; clear BK440; clear BK441; clear HB; have HO444 := n0_; have BK438 := n1_; have BK439 := n2_; have BK440 := n3_; have BK441 := n4_; have HB := n5_; clear n0_ n1_ n2_ n3_ n4_ n5_; (try clear hb); (try clear hb2); (try clear hk); (try clear hi); (try clear ho0)) | ((with_reducible refine gate_store (t := 38) (p := 11) (v := .tmp 16) rfl ?_); refine Ob.ev_store rfl rfl 38 (.tmp 11) (.tmp 16) rfl (g := gb441) (t := 38) (old := ?_) #[.bool false, .int .i64 a3_0, .int .i64 a3_1, .int .i64 a3_2, .int .i64 a3_3, .int .i64 a3_4, .int .i64 a3_5, .int .u32 a3_6, .int .u32 a3_7, .int .u32 a3_8, .int .u64 a3_9, .int .u64 a3_10, .int .u64 a3_11, .int .u64 a3_12, .int .i64 a4_0, .int .i64 a4_1, .int .i64 0] ?hx ?hy ?hb ?hi ?ho ?h1 ?_; (case hx => rfl); (case hy => first | rfl | (go_simp; done) | (go_simp; rfl)); (case hb => exact (by (with_reducible repeat (first | refine blk_drewN ?_ _ | refine blk_drew ?_ | refine blk_alloc ?_ _)); exact BK441.out)); (case hi => kernel_rfl); (case ho => rfl); (case h1 => simp [Value.oneCell']); intro w16_ hbox hgr; have n_gb438 : Aside0 (w16_.heap[gb438]? = some (.cells #[.int .i64 a3_0, .int .i64 a3_1, .int .i64 a3_2, .int .i64 a3_3, .int .i64 a3_4, .int .i64 a3_5, .int .u32 a3_6, .int .u32 a3_7, .int .u32 a3_8, .int .u64 a3_9, .int .u64 a3_10, .int .u64 a3_11, .int .u64 a3_12] 33 (0, 0))) := ⟨Ob.Grew.blkFar (t := 33) (cs := #[.int .i64 a3_0, .int .i64 a3_1, .int .i64 a3_2, .int .i64 a3_3, .int .i64 a3_4, .int .i64 a3_5, .int .u32 a3_6, .int .u32 a3_7, .int .u32 a3_8, .int .u64 a3_9, .int .u64 a3_10, .int .u64 a3_11, .int .u64 a3_12]) hgr (by (with_reducible repeat (first | refine blk_drewN ?_ _ | refine blk_drew ?_ | refine blk_alloc ?_ _)); exact BK438.out) NB438_441.out⟩; have n_gb439 : Aside0 (w16_.heap[gb439]? = some (.cells #[.int .i64 a4_0, .int .i64 a4_1] 35 (0, 0))) := ⟨Ob.Grew.blkFar (t := 35) (cs := #[.int .i64 a4_0, .int .i64 a4_1]) hgr (by (with_reducible repeat (first | refine blk_drewN ?_ _ | refine blk_drew ?_ | refine blk_alloc ?_ _)); exact BK439.out) NB439_441.out⟩; have n_gb440 : Aside0 (w16_.heap[gb440]? = some (.cells #[.bool false, .int .i64 0, .int .i64 0, .int .i64 0, .int .i64 0, .int .i64 0, .int .i64 0, .int .u32 0, .int .u32 0, .int .u32 0, .int .u64 0, .int .u64 0, .int .u64 0, .int .u64 0, .int .i64 0, .int .i64 0, .int .i64 0] 38 (0, 0))) := ⟨Ob.Grew.blkFar (t := 38) (cs := #[.bool false, .int .i64 0, .int .i64 0, .int .i64 0, .int .i64 0, .int .i64 0, .int .i64 0, .int .u32 0, .int .u32 0, .int .u32 0, .int .u64 0, .int .u64 0, .int .u64 0, .int .u64 0, .int .i64 0, .int .i64 0, .int .i64 0]) hgr (by (with_reducible repeat (first | refine blk_drewN ?_ _ | refine blk_drew ?_ | refine blk_alloc ?_ _)); exact BK440.out) NB440_441.out⟩; have n_gb441 : Aside0 (w16_.heap[gb441]? = some (.cells #[.bool false, .int .i64 a3_0, .int .i64 a3_1, .int .i64 a3_2, .int .i64 a3_3, .int .i64 a3_4, .int .i64 a3_5, .int .u32 a3_6, .int .u32 a3_7, .int .u32 a3_8, .int .u64 a3_9, .int .u64 a3_10, .int .u64 a3_11, .int .u64 a3_12, .int .i64 a4_0, .int .i64 a4_1, .int .i64 0] 38 (0, 0))) := ⟨hbox⟩; have n_HB : Aside0 (Below w.heap.size w w16_) := ⟨below_grew1 (by repeat (first | (with_reducible first | exact HB.out | apply below_alloc | apply pw_below_drewN | apply below_drew1) | exact HB.out)) hgr GE441.out⟩; clear BK438; have BK438 := n_gb438; clear n_gb438; clear BK439; have BK439 := n_gb439; clear n_gb439; clear BK440; have BK440 := n_gb440; clear n_gb440; clear BK441; have BK441 := n_gb441; clear n_gb441; clear HB; have HB := n_HB; clear n_HB; clear hbox hgr))
  go_loopg [13] k (fun kq v13 w' => ∃ (x13_1 : Int) (x442000_1 : Bool) (x442001_1 : Int) (x442002_1 : Int) (x442003_1 : Int) (x442004_1 : Int) (x442005_1 : Int) (x442006_1 : Int) (x442007_1 : Int) (x442008_1 : Int) (x442009_1 : Int) (x442010_1 : Int) (x442011_1 : Int) (x442012_1 : Int) (x442013_1 : Int) (x442014_1 : Int) (x442015_1 : Int) (x442016_1 : Int), v13 = .int .i64 x13_1 ∧ Aside0 (timesyncref55_Apply.l0 kq l0 a2 t442 x13_1 x442000_1 x442001_1 x442002_1 x442003_1 x442004_1 x442005_1 x442006_1 x442007_1 x442008_1 x442009_1 x442010_1 x442011_1 x442012_1 x442013_1 x442014_1 x442015_1 x442016_1 = some (r1, r2, r3, r4, r5, r6, r7, r8, r9, r10, r11, r12, r13, r14, r15, r16, r17)) ∧ Aside0 (kq ≤ k) ∧ Aside0 (Kd.R (Kd.int .i64) 3 w' w.heap.size (fun _ => True) v443 t442) ∧ Aside0 (w'.heap[gb438]? = some (.cells #[.int .i64 a3_0, .int .i64 a3_1, .int .i64 a3_2, .int .i64 a3_3, .int .i64 a3_4, .int .i64 a3_5, .int .u32 a3_6, .int .u32 a3_7, .int .u32 a3_8, .int .u64 a3_9, .int .u64 a3_10, .int .u64 a3_11, .int .u64 a3_12] 33 (0, 0))) ∧ Aside0 (w'.heap[gb439]? = some (.cells #[.int .i64 a4_0, .int .i64 a4_1] 35 (0, 0))) ∧ Aside0 (w'.heap[gb440]? = some (.cells #[.bool false, .int .i64 0, .int .i64 0, .int .i64 0, .int .i64 0, .int .i64 0, .int .i64 0, .int .u32 0, .int .u32 0, .int .u32 0, .int .u64 0, .int .u64 0, .int .u64 0, .int .u64 0, .int .i64 0, .int .i64 0, .int .i64 0] 38 (0, 0))) ∧ Aside0 (w'.heap[gb441]? = some (.cells #[.bool x442000_1, .int .i64 x442001_1, .int .i64 x442002_1, .int .i64 x442003_1, .int .i64 x442004_1, .int .i64 x442005_1, .int .i64 x442006_1, .int .u32 x442007_1, .int .u32 x442008_1, .int .u32 x442009_1, .int .u64 x442010_1, .int .u64 x442011_1, .int .u64 x442012_1, .int .u64 x442013_1, .int .i64 x442014_1, .int .i64 x442015_1, .int .i64 x442016_1] 38 (0, 0))) ∧ Aside0 (Below w.heap.size w w'))
  case atStart => exact ⟨(0), (false), (a3_0), (a3_1), (a3_2), (a3_3), (a3_4), (a3_5), (a3_6), (a3_7), (a3_8), (a3_9), (a3_10), (a3_11), (a3_12), (a4_0), (a4_1), (0), (by first | rfl | (simp; done) | (simp [*]; done)), H', ⟨Nat.le_refl _⟩, ⟨by (with_reducible repeat (first | apply Kd.R_alloc | apply Kd.R_drewN | apply Kd.R_drew)); exact HO444.out⟩, ⟨by (with_reducible repeat (first | refine blk_drewN ?_ _ | refine blk_drew ?_ | refine blk_alloc ?_ _)); exact BK438.out⟩, ⟨by (with_reducible repeat (first | refine blk_drewN ?_ _ | refine blk_drew ?_ | refine blk_alloc ?_ _)); exact BK439.out⟩, ⟨by (with_reducible repeat (first | refine blk_drewN ?_ _ | refine blk_drew ?_ | refine blk_alloc ?_ _)); exact BK440.out⟩, ⟨by (with_reducible repeat (first | refine blk_drewN ?_ _ | refine blk_drew ?_ | refine blk_alloc ?_ _)); exact BK441.out⟩, ⟨by repeat (first | (with_reducible first | exact HB.out | apply below_alloc | apply pw_below_drewN | apply below_drew1 | refine below_set ?_ GE438.out | refine below_set ?_ GE439.out | refine below_set ?_ GE440.out | refine below_set ?_ GE441.out) | exact HB.out)⟩⟩
  case round =>
    clear H'
    try clear c1
    try clear c2
    try clear p2
    try clear c10
    try clear c11
    try clear c13
    try clear c16
    try clear c17
    try clear c18
    try clear c19
    try clear hcz12_0
    try clear hcz12_1
    try clear hcz12_10
    try clear hcz12_11
    try clear hcz12_12
    try clear hcz12_2
    try clear hcz12_3
    try clear hcz12_4
    try clear hcz12_5
    try clear hcz12_6
    try clear hcz12_7
    try clear hcz12_8
    try clear hcz12_9
    try clear hcz14_0
    try clear hcz14_1
    try clear hcz19_0
    try clear hcz19_1
    try clear hcz19_10
    try clear hcz19_11
    try clear hcz19_12
    try clear hcz19_13
    try clear hcz19_14
    try clear hcz19_15
    try clear hcz19_16
    try clear hcz19_2
    try clear hcz19_3
    try clear hcz19_4
    try clear hcz19_5
    try clear hcz19_6
    try clear hcz19_7
    try clear hcz19_8
    try clear hcz19_9
    try clear hfz12_0
    try clear hfz12_1
    try clear hfz12_10
    try clear hfz12_11
    try clear hfz12_12
    try clear hfz12_2
    try clear hfz12_3
    try clear hfz12_4
    try clear hfz12_5
    try clear hfz12_6
    try clear hfz12_7
    try clear hfz12_8
    try clear hfz12_9
    try clear hfz14_0
    try clear hfz14_1
    try clear hfz19_0
    try clear hfz19_1
    try clear hfz19_10
    try clear hfz19_11
    try clear hfz19_12
    try clear hfz19_13
    try clear hfz19_14
    try clear hfz19_15
    try clear hfz19_16
    try clear hfz19_2
    try clear hfz19_3
    try clear hfz19_4
    try clear hfz19_5
    try clear hfz19_6
    try clear hfz19_7
    try clear hfz19_8
    try clear hfz19_9
    obtain ⟨x13_1, x442000_1, x442001_1, x442002_1, x442003_1, x442004_1, x442005_1, x442006_1, x442007_1, x442008_1, x442009_1, x442010_1, x442011_1, x442012_1, x442013_1, x442014_1, x442015_1, x442016_1, rfl, HA, HK1, HO_12, BK438, BK439, BK440, BK441, HB⟩ := hrel
    cases gk with
    | zero => exact absurd HA.out (by simp [timesyncref55_Apply.l0])
    | succ k1 =>
      have H := HA.out
      clear HA
      simp only [timesyncref55_Apply.l0] at H
      by_cases c21 : x13_1 < (t442.length : Int)
      · rw [if_pos c21] at H
        have c21b0 : decide (x13_1 < (t442.length : Int)) = true := decide_eq_true c21
        clear c21
        by_cases c22 : 0 ≤ x13_1
        · rw [if_pos c22] at H
          have c22b0 : decide (0 ≤ x13_1) = true := decide_eq_true c22
          clear c22
          by_cases c23 : 0 ≤ (rd t442 x13_1)
          · rw [if_pos c23] at H
            have c23b0 : decide (0 ≤ (rd t442 x13_1)) = true := decide_eq_true c23
            clear c23
            by_cases c24 : (rd t442 x13_1) < (l0.length : Int)
            · rw [if_pos c24] at H
              have c24b0 : decide ((rd t442 x13_1) < (l0.length : Int)) = true := decide_eq_true c24
              clear c24
              replace H := Option.bind_eq_some_iff.mp H
              obtain ⟨⟨t447, t448, t449, t450, t451, t452, t453, t454, t455, t456, t457, t458, t459, t460, t461, t462, t463⟩, A250, H⟩ := H
              replace H : (timesyncref55_Apply.l0 k1 l0 a2 t442 (wrap64 (x13_1 + 1)) t447 t448 t449 t450 t451 t452 t453 t454 t455 t456 t457 t458 t459 t460 t461 t462 t463) = some (r1, r2, r3, r4, r5, r6, r7, r8, r9, r10, r11, r12, r13, r14, r15, r16, r17) := H
              have A25 := Aside0.mk A250
              clear A250
              have H' := Aside0.mk H
              clear H
              obtain ⟨Ao26, co26, eo26⟩ := Kd.R_slice HO_12.out
              subst eo26
              try go_wp2
              have n0_ := Aside0.mk (Kd.R_drew HO_12.out)
              have n1_ := Aside0.mk (blk_drew BK438.out)
              have n2_ := Aside0.mk (blk_drew BK439.out)
              have n3_ := Aside0.mk (blk_drew BK440.out)
              have n4_ := Aside0.mk (blk_drew BK441.out)
              have n5_ := Aside0.mk (below_drew1 HB.out)
              clear HO_12
              clear BK438
              clear BK439
              clear BK440
              clear BK441
              clear HB
              have HO_12 := n0_
              have BK438 := n1_
              have BK439 := n2_
              have BK440 := n3_
              have BK441 := n4_
              have HB := n5_
              clear n0_ n1_ n2_ n3_ n4_ n5_
              have p445 : 0 ≤ (x13_1 : Int) := of_decide_eq_true (by first | (with_reducible assumption) | assumption)
              have q445 : x13_1 < (t442.length : Int) := of_decide_eq_true (by first | (with_reducible assumption) | assumption)
              obtain ⟨ad445, e445, hx445_0⟩ := Kd.at_int (Kd.R_reads' HO_12.out).2.2 x13_1 p445 q445
              cases e445
              replace p445 := eq_true p445
              replace q445 := eq_true q445
              have p446 : 0 ≤ ((rd t442 x13_1) : Int) := of_decide_eq_true (by first | (with_reducible assumption) | assumption)
              have q446 : (rd t442 x13_1) < (l0.length : Int) := of_decide_eq_true (by first | (with_reducible assumption) | assumption)
              obtain ⟨ad446, e446, hx446_0, hx446_1, hx446_2, hx446_3, hx446_4⟩ := at_T46 HR0.out (rd t442 x13_1) p446 q446
              have hw446_4 := hx446_4
              have hw446_3 := hx446_3
              have hw446_2 := hx446_2
              have hw446_1 := hx446_1
              have hw446_0 := hx446_0
              cases e446
              replace hx446_0 := (HB.out.cell (World.block_lt_of_cell? w _ hx446_0)).trans hx446_0
              replace hx446_1 := (HB.out.cell (World.block_lt_of_cell? w _ hx446_1)).trans hx446_1
              replace hx446_2 := (HB.out.cell (World.block_lt_of_cell? w _ hx446_2)).trans hx446_2
              replace hx446_3 := (HB.out.cell (World.block_lt_of_cell? w _ hx446_3)).trans hx446_3
              replace hx446_4 := (HB.out.cell (World.block_lt_of_cell? w _ hx446_4)).trans hx446_4
              replace p446 := eq_true p446
              replace q446 := eq_true q446
              refine start_ (n := 11) (S := fun w' => w'.heap[gb441]? = some (.cells #[.bool x442000_1, .int .i64 x442001_1, .int .i64 x442002_1, .int .i64 x442003_1, .int .i64 x442004_1, .int .i64 x442005_1, .int .i64 x442006_1, .int .u32 x442007_1, .int .u32 x442008_1, .int .u32 x442009_1, .int .u64 x442010_1, .int .u64 x442011_1, .int .u64 x442012_1, .int .u64 x442013_1, .int .i64 x442014_1, .int .i64 x442015_1, .int .i64 x442016_1] 38 (0, 0)) ∧ w'.cell? (ad445.add (x13_1).toNat) = some (.int .i64 (rd t442 x13_1)) ∧ w'.cell? (ad446.add (((rd t442 x13_1)).toNat * 5)) = some (.int .i64 ((rd_T46 l0 (rd t442 x13_1)).f0)) ∧ w'.cell? ⟨(ad446.add (((rd t442 x13_1)).toNat * 5)).block, (ad446.add (((rd t442 x13_1)).toNat * 5)).off + 1, none⟩ = some (.int .i64 ((rd_T46 l0 (rd t442 x13_1)).f1)) ∧ w'.cell? ⟨(ad446.add (((rd t442 x13_1)).toNat * 5)).block, (ad446.add (((rd t442 x13_1)).toNat * 5)).off + 2, none⟩ = some (.int .i64 ((rd_T46 l0 (rd t442 x13_1)).f2)) ∧ w'.cell? ⟨(ad446.add (((rd t442 x13_1)).toNat * 5)).block, (ad446.add (((rd t442 x13_1)).toNat * 5)).off + 3, none⟩ = some (.int .i64 ((rd_T46 l0 (rd t442 x13_1)).f3)) ∧ w'.cell? ⟨(ad446.add (((rd t442 x13_1)).toNat * 5)).block, (ad446.add (((rd t442 x13_1)).toNat * 5)).off + 4, none⟩ = some (.int .i64 ((rd_T46 l0 (rd t442 x13_1)).f4))) (ds := [10]) #[false, false, false, false, false, false, false, false, false, false, false] (by kernel_rfl) rfl rfl ⟨BK441.out, hx445_0, ((HB.out.cell (World.block_lt_of_cell? w _ hw446_0)).trans hw446_0), ((HB.out.cell (World.block_lt_of_cell? w _ hw446_1)).trans hw446_1), ((HB.out.cell (World.block_lt_of_cell? w _ hw446_2)).trans hw446_2), ((HB.out.cell (World.block_lt_of_cell? w _ hw446_3)).trans hw446_3), ((HB.out.cell (World.block_lt_of_cell? w _ hw446_4)).trans hw446_4)⟩ (fun hHeld => ?_); refine with_tabW timesyncref55_Apply.tab6 timesyncref55_Apply.bits6 (fun HT_ HW_ => ?_)
              generalize wr.drew = w27 at HO_12 BK438 BK439 BK440 BK441 HB hx445_0 hx446_0 hx446_1 hx446_2 hx446_3 hx446_4 hHeld ⊢
              refine pure_ (i := 1) (N := some 28) (v := ?_) (a' := ?_) #[false, true, false, false, false, false, false, false, false, false, false] rfl rfl (any_of HT_.out (by kernel_rfl)) (fun _ _ _ h => h) (Or.inl ⟨by rfl, ?_⟩) ?_ ?_
              rotate_left
              · intro w'
                go_simp
                with_reducible rfl
              rotate_left
              · simp only [Act.put, List.setIfInBounds_toArray, List.set_cons_zero, List.set_cons_succ, i64_w, i32_w]
                rfl
              refine pure_ (i := 2) (N := some 29) (v := ?_) (a' := ?_) #[false, true, true, false, false, false, false, false, false, false, false] rfl rfl (any_of HT_.out (by kernel_rfl)) (fun _ _ _ h => h) (Or.inl ⟨by rfl, ?_⟩) ?_ ?_
              rotate_left
              · intro w'
                go_simp
                with_reducible rfl
              rotate_left
              · simp only [Act.put, List.setIfInBounds_toArray, List.set_cons_zero, List.set_cons_succ, i64_w, i32_w]
                rfl
              refine pure_ (i := 3) (N := some 30) (v := ?_) (a' := ?_) #[false, true, true, true, false, false, false, false, false, false, false] rfl rfl (any_of HT_.out (by kernel_rfl)) (fun _ _ _ h => h) (Or.inl ⟨by rfl, ?_⟩) ?_ ?_
              rotate_left
              · intro w'
                go_simp
                with_reducible rfl
              rotate_left
              · simp only [Act.put, List.setIfInBounds_toArray, List.set_cons_zero, List.set_cons_succ, i64_w, i32_w]
                rfl
              refine pure_ (i := 4) (N := some 31) (v := ?_) (a' := ?_) #[false, true, true, true, true, false, false, false, false, false, false] rfl rfl (any_of HT_.out (by kernel_rfl)) (fun _ _ _ h => h) (Or.inl ⟨by rfl, ?_⟩) ?_ ?_
              rotate_left
              · intro w'
                go_simp
                with_reducible rfl
              rotate_left
              · simp only [Act.put, List.setIfInBounds_toArray, List.set_cons_zero, List.set_cons_succ, i64_w, i32_w]
                rfl
              refine pure_ (i := 8) (N := some 35) (v := ?_) (a' := ?_) #[false, true, true, true, true, false, false, false, true, false, false] rfl rfl (any_of HT_.out (by kernel_rfl)) (fun _ _ _ h => h) (Or.inl ⟨by rfl, ?_⟩) ?_ ?_
              rotate_left
              · intro w'
                go_simp
                with_reducible rfl
              rotate_left
              · simp only [Act.put, List.setIfInBounds_toArray, List.set_cons_zero, List.set_cons_succ, i64_w, i32_w]
                rfl
              refine take_ (i := 0) (N := some 27) (v := .agg #[.bool x442000_1, .int .i64 x442001_1, .int .i64 x442002_1, .int .i64 x442003_1, .int .i64 x442004_1, .int .i64 x442005_1, .int .i64 x442006_1, .int .u32 x442007_1, .int .u32 x442008_1, .int .u32 x442009_1, .int .u64 x442010_1, .int .u64 x442011_1, .int .u64 x442012_1, .int .u64 x442013_1, .int .i64 x442014_1, .int .i64 x442015_1, .int .i64 x442016_1]) (a' := ?_) #[true, true, true, true, true, false, false, false, true, false, false] rfl rfl (take_ofW HT_.out HW_.out (by kernel_rfl)) (fun _ _ _ h => h) (Or.inl ⟨by rfl, ?_⟩) hHeld ?_ ?_
              · rintro w' ⟨s0, s17, s18, s19, s20, s21, s22⟩
                exact ld_row 38 (.tmp 11) (by rfl) _ (by rfl) s0 hu38 rfl inf38
              rotate_left
              · simp only [Act.put, List.setIfInBounds_toArray, List.set_cons_zero, List.set_cons_succ, i64_w, i32_w]
                rfl
              refine take_ (i := 5) (N := some 32) (v := ?_) (a' := ?_) #[true, true, true, true, true, true, false, false, true, false, false] rfl rfl (take_ofW HT_.out HW_.out (by kernel_rfl)) (fun _ _ _ h => h) (Or.inl ⟨by rfl, ?_⟩) hHeld ?_ ?_
              rotate_left
              · rintro w' ⟨s0, s17, s18, s19, s20, s21, s22⟩
                go_simp
                with_reducible rfl
              rotate_left
              · simp only [Act.put, List.setIfInBounds_toArray, List.set_cons_zero, List.set_cons_succ, i64_w, i32_w]
                rfl
              refine pure_ (i := 6) (N := some 33) (v := ?_) (a' := ?_) #[true, true, true, true, true, true, true, false, true, false, false] rfl rfl (any_of HT_.out (by kernel_rfl)) (fun _ _ _ h => h) (Or.inl ⟨by rfl, ?_⟩) ?_ ?_
              rotate_left
              · intro w'
                go_simp
                with_reducible rfl
              rotate_left
              · simp only [Act.put, List.setIfInBounds_toArray, List.set_cons_zero, List.set_cons_succ, i64_w, i32_w]
                rfl
              refine take_ (i := 7) (N := some 34) (v := ?_) (a' := ?_) #[true, true, true, true, true, true, true, true, true, false, false] rfl rfl (take_ofW HT_.out HW_.out (by kernel_rfl)) (fun _ _ _ h => h) (Or.inl ⟨by rfl, ?_⟩) hHeld ?_ ?_
              rotate_left
              · rintro w' ⟨s0, s17, s18, s19, s20, s21, s22⟩
                go_simp
                with_reducible rfl
              rotate_left
              · simp only [Act.put, List.setIfInBounds_toArray, List.set_cons_zero, List.set_cons_succ, i64_w, i32_w]
                rfl
              refine one_ (i := 9) (N := some 36) #[true, true, true, true, true, true, true, true, true, true, false] rfl rfl (one_of HT_.out (by kernel_rfl)) (by decide) (fun K hK => ?_)
              refine goes_ Try.func37 (by kernel_rfl) rfl #[.agg #[.bool x442000_1, .int .i64 x442001_1, .int .i64 x442002_1, .int .i64 x442003_1, .int .i64 x442004_1, .int .i64 x442005_1, .int .i64 x442006_1, .int .u32 x442007_1, .int .u32 x442008_1, .int .u32 x442009_1, .int .u64 x442010_1, .int .u64 x442011_1, .int .u64 x442012_1, .int .u64 x442013_1, .int .i64 x442014_1, .int .i64 x442015_1, .int .i64 x442016_1], .agg #[.int .i64 ((rd_T46 l0 (rd t442 x13_1)).f0), .int .i64 ((rd_T46 l0 (rd t442 x13_1)).f1), .int .i64 ((rd_T46 l0 (rd t442 x13_1)).f2), .int .i64 ((rd_T46 l0 (rd t442 x13_1)).f3), .int .i64 ((rd_T46 l0 (rd t442 x13_1)).f4)], .int .i64 a2] (by rfl) rfl rfl (by (try simp only [List.map_toArray, List.map_cons, List.map_nil]); first | done | rfl | (simp only [List.length_drop, List.length_take]; rfl)) ?_
              with_reducible refine (timesyncref55_one.calls k1 x442000_1 x442001_1 x442002_1 x442003_1 x442004_1 x442005_1 x442006_1 x442007_1 x442008_1 x442009_1 x442010_1 x442011_1 x442012_1 x442013_1 x442014_1 x442015_1 x442016_1 ((rd_T46 l0 (rd t442 x13_1)).f0) ((rd_T46 l0 (rd t442 x13_1)).f1) ((rd_T46 l0 (rd t442 x13_1)).f2) ((rd_T46 l0 (rd t442 x13_1)).f3) ((rd_T46 l0 (rd t442 x13_1)).f4) a2 t447 t448 t449 t450 t451 t452 t453 t454 t455 t456 t457 t458 t459 t460 t461 t462 t463 _ A25.out).mono ?_
              rintro e w28 ⟨rfl, hb⟩
              have HS17_ := (hb.cell (World.block_lt_of_cell? _ _ (hHeld.2.1))).trans (hHeld.2.1)
              refine ⟨_, rfl, ?_⟩
              have n0_ := Aside0.mk (Kd.R_below (by (with_reducible repeat (first | apply Kd.R_alloc | apply Kd.R_drewN | apply Kd.R_drew)); exact HO_12.out) hb)
              have n1_ := Aside0.mk (blk_below (g := gb438) (o := .cells #[.int .i64 a3_0, .int .i64 a3_1, .int .i64 a3_2, .int .i64 a3_3, .int .i64 a3_4, .int .i64 a3_5, .int .u32 a3_6, .int .u32 a3_7, .int .u32 a3_8, .int .u64 a3_9, .int .u64 a3_10, .int .u64 a3_11, .int .u64 a3_12] 33 (0, 0)) (by (with_reducible repeat (first | refine blk_drewN ?_ _ | refine blk_drew ?_ | refine blk_alloc ?_ _)); exact BK438.out) hb)
              have n2_ := Aside0.mk (blk_below (g := gb439) (o := .cells #[.int .i64 a4_0, .int .i64 a4_1] 35 (0, 0)) (by (with_reducible repeat (first | refine blk_drewN ?_ _ | refine blk_drew ?_ | refine blk_alloc ?_ _)); exact BK439.out) hb)
              have n3_ := Aside0.mk (blk_below (g := gb440) (o := .cells #[.bool false, .int .i64 0, .int .i64 0, .int .i64 0, .int .i64 0, .int .i64 0, .int .i64 0, .int .u32 0, .int .u32 0, .int .u32 0, .int .u64 0, .int .u64 0, .int .u64 0, .int .u64 0, .int .i64 0, .int .i64 0, .int .i64 0] 38 (0, 0)) (by (with_reducible repeat (first | refine blk_drewN ?_ _ | refine blk_drew ?_ | refine blk_alloc ?_ _)); exact BK440.out) hb)
              have n4_ := Aside0.mk (blk_below (g := gb441) (o := .cells #[.bool x442000_1, .int .i64 x442001_1, .int .i64 x442002_1, .int .i64 x442003_1, .int .i64 x442004_1, .int .i64 x442005_1, .int .i64 x442006_1, .int .u32 x442007_1, .int .u32 x442008_1, .int .u32 x442009_1, .int .u64 x442010_1, .int .u64 x442011_1, .int .u64 x442012_1, .int .u64 x442013_1, .int .i64 x442014_1, .int .i64 x442015_1, .int .i64 x442016_1] 38 (0, 0)) (by (with_reducible repeat (first | refine blk_drewN ?_ _ | refine blk_drew ?_ | refine blk_alloc ?_ _)); exact BK441.out) hb)
              have n5_ := Aside0.mk (below_step (by repeat (first | (with_reducible first | exact HB.out | apply below_alloc | apply pw_below_drewN | apply below_drew1 | refine below_set ?_ GE438.out | refine below_set ?_ GE439.out | refine below_set ?_ GE440.out | refine below_set ?_ GE441.out) | exact HB.out)) hb)
              clear HO_12
              clear BK438
              clear BK439
              clear BK440
              clear BK441
              clear HB
              have HO_12 := n0_
              have BK438 := n1_
              have BK439 := n2_
              have BK440 := n3_
              have BK441 := n4_
              have HB := n5_
              clear n0_ n1_ n2_ n3_ n4_ n5_
              (try clear hb)
              (try clear hb2)
              (try clear hk)
              (try clear hi)
              refine hK.out _ _ ⟨BK441.out, HS17_, ((HB.out.cell (World.block_lt_of_cell? w _ hw446_0)).trans hw446_0), ((HB.out.cell (World.block_lt_of_cell? w _ hw446_1)).trans hw446_1), ((HB.out.cell (World.block_lt_of_cell? w _ hw446_2)).trans hw446_2), ((HB.out.cell (World.block_lt_of_cell? w _ hw446_3)).trans hw446_3), ((HB.out.cell (World.block_lt_of_cell? w _ hw446_4)).trans hw446_4)⟩ (fun hHeld => ?_)
              clear hK K
              refine norm_ (a' := ?_) ?_ ?_
              rotate_left
              · show Act.put _ (some 36) _ = _
                simp only [Act.put, List.setIfInBounds_toArray, List.set_cons_zero, List.set_cons_succ, i64_w, i32_w]
                rfl
              refine last_ (i := 10) (N := none) #[true, true, true, true, true, true, true, true, true, true, true] rfl rfl (one_of HT_.out (by kernel_rfl)) (by decide) (fun K hK => ?_)
              refine skip_ (w1 := World.setRow w28 gb441 #[.bool t447, .int .i64 t448, .int .i64 t449, .int .i64 t450, .int .i64 t451, .int .i64 t452, .int .i64 t453, .int .u32 t454, .int .u32 t455, .int .u32 t456, .int .u64 t457, .int .u64 t458, .int .u64 t459, .int .u64 t460, .int .i64 t461, .int .i64 t462, .int .i64 t463]) (by rfl) rfl ?_ ?_
              · exact st_row 38 (.tmp 11) (.tmp 36) (by rfl) (cs := #[.bool t447, .int .i64 t448, .int .i64 t449, .int .i64 t450, .int .i64 t451, .int .i64 t452, .int .i64 t453, .int .u32 t454, .int .u32 t455, .int .u32 t456, .int .u64 t457, .int .u64 t458, .int .u64 t459, .int .u64 t460, .int .i64 t461, .int .i64 t462, .int .i64 t463]) (by rfl) (by rfl) BK441.out inf38 (by rfl) (by simp [Value.oneCell'])
              refine hK.out _ _ ?_
              clear hK K
              refine done_ (done_of HT_.out (by kernel_rfl)) ?_
              try go_wp2
              go_roundg k1
              case measure => have := HK1.out; omega
              case rel => exact ⟨(wrap64 (x13_1 + 1)), (t447), (t448), (t449), (t450), (t451), (t452), (t453), (t454), (t455), (t456), (t457), (t458), (t459), (t460), (t461), (t462), (t463), (by first | rfl | (simp; done) | (simp [*]; done)), H', ⟨by have := HK1.out; omega⟩, ⟨Kd.R_mono (Kd.R_grown (Kd.R_types HO_12.out BK441.out (by decide)) ((Ob.grew_setRow w28 gb441 #[.bool t447, .int .i64 t448, .int .i64 t449, .int .i64 t450, .int .i64 t451, .int .i64 t452, .int .i64 t453, .int .u32 t454, .int .u32 t455, .int .u32 t456, .int .u64 t457, .int .u64 t458, .int .u64 t459, .int .u64 t460, .int .i64 t461, .int .i64 t462, .int .i64 t463])).out (fun k hk e => hk.2 (Option.some.inj e))) (fun _ hk => trivial)⟩, ⟨Ob.Grew.blkFar (t := 33) (cs := #[.int .i64 a3_0, .int .i64 a3_1, .int .i64 a3_2, .int .i64 a3_3, .int .i64 a3_4, .int .i64 a3_5, .int .u32 a3_6, .int .u32 a3_7, .int .u32 a3_8, .int .u64 a3_9, .int .u64 a3_10, .int .u64 a3_11, .int .u64 a3_12]) (Ob.grew_setRow w28 gb441 #[.bool t447, .int .i64 t448, .int .i64 t449, .int .i64 t450, .int .i64 t451, .int .i64 t452, .int .i64 t453, .int .u32 t454, .int .u32 t455, .int .u32 t456, .int .u64 t457, .int .u64 t458, .int .u64 t459, .int .u64 t460, .int .i64 t461, .int .i64 t462, .int .i64 t463]) BK438.out NB438_441.out⟩, ⟨Ob.Grew.blkFar (t := 35) (cs := #[.int .i64 a4_0, .int .i64 a4_1]) (Ob.grew_setRow w28 gb441 #[.bool t447, .int .i64 t448, .int .i64 t449, .int .i64 t450, .int .i64 t451, .int .i64 t452, .int .i64 t453, .int .u32 t454, .int .u32 t455, .int .u32 t456, .int .u64 t457, .int .u64 t458, .int .u64 t459, .int .u64 t460, .int .i64 t461, .int .i64 t462, .int .i64 t463]) BK439.out NB439_441.out⟩, ⟨Ob.Grew.blkFar (t := 38) (cs := #[.bool false, .int .i64 0, .int .i64 0, .int .i64 0, .int .i64 0, .int .i64 0, .int .i64 0, .int .u32 0, .int .u32 0, .int .u32 0, .int .u64 0, .int .u64 0, .int .u64 0, .int .u64 0, .int .i64 0, .int .i64 0, .int .i64 0]) (Ob.grew_setRow w28 gb441 #[.bool t447, .int .i64 t448, .int .i64 t449, .int .i64 t450, .int .i64 t451, .int .i64 t452, .int .i64 t453, .int .u32 t454, .int .u32 t455, .int .u32 t456, .int .u64 t457, .int .u64 t458, .int .u64 t459, .int .u64 t460, .int .i64 t461, .int .i64 t462, .int .i64 t463]) BK440.out NB440_441.out⟩, ⟨setRow_heap w28 gb441 _ #[.bool t447, .int .i64 t448, .int .i64 t449, .int .i64 t450, .int .i64 t451, .int .i64 t452, .int .i64 t453, .int .u32 t454, .int .u32 t455, .int .u32 t456, .int .u64 t457, .int .u64 t458, .int .u64 t459, .int .u64 t460, .int .i64 t461, .int .i64 t462, .int .i64 t463] 38 (0, 0) BK441.out⟩, ⟨below_grew1 HB.out (Ob.grew_setRow w28 gb441 #[.bool t447, .int .i64 t448, .int .i64 t449, .int .i64 t450, .int .i64 t451, .int .i64 t452, .int .i64 t453, .int .u32 t454, .int .u32 t455, .int .u32 t456, .int .u64 t457, .int .u64 t458, .int .u64 t459, .int .u64 t460, .int .i64 t461, .int .i64 t462, .int .i64 t463]) GE441.out⟩⟩
            · rw [if_neg c24] at H
              exact absurd H (by simp)
          · rw [if_neg c23] at H
            exact absurd H (by simp)
        · rw [if_neg c22] at H
          exact absurd H (by simp)
      · rw [if_neg c21] at H
        have c21b0 : decide (x13_1 < (t442.length : Int)) = false := decide_eq_false c21
        clear c21
        simp only [Option.some.injEq, Prod.mk.injEq] at H
        obtain ⟨rfl, rfl, rfl, rfl, rfl, rfl, rfl, rfl, rfl, rfl, rfl, rfl, rfl, rfl, rfl, rfl, rfl⟩ := H
        obtain ⟨Ao46, co46, eo46⟩ := Kd.R_slice HO_12.out
        subst eo46
        have hnb47 := NB441_438.out
        have hnc47 := NB438_441.out
        have hnb48 := NB441_439.out
        have hnc48 := NB439_441.out
        have hnb49 := NB441_440.out
        have hnc49 := NB440_441.out
        have hnb51 := NB440_438.out
        have hnc51 := NB438_440.out
        have hnb52 := NB440_439.out
        have hnc52 := NB439_440.out
        go_wp2_with (first | ((with_reducible refine gate_dst (N := 37) rfl ?_); refine Ob.ev_load rfl (N := 37) rfl 38 (.tmp 11) rfl (g := gb441) (t := 38) (cs := #[.bool x442000_1, .int .i64 x442001_1, .int .i64 x442002_1, .int .i64 x442003_1, .int .i64 x442004_1, .int .i64 x442005_1, .int .i64 x442006_1, .int .u32 x442007_1, .int .u32 x442008_1, .int .u32 x442009_1, .int .u64 x442010_1, .int .u64 x442011_1, .int .u64 x442012_1, .int .u64 x442013_1, .int .i64 x442014_1, .int .i64 x442015_1, .int .i64 x442016_1]) _ rfl (by exact BK441.out) hu38 rfl inf38 ?_) | ((with_reducible refine gate_store (t := 38) (p := 10) (v := .tmp 37) rfl ?_); refine Ob.ev_store rfl rfl 38 (.tmp 10) (.tmp 37) rfl (g := gb440) (t := 38) (old := ?_) #[.bool x442000_1, .int .i64 x442001_1, .int .i64 x442002_1, .int .i64 x442003_1, .int .i64 x442004_1, .int .i64 x442005_1, .int .i64 x442006_1, .int .u32 x442007_1, .int .u32 x442008_1, .int .u32 x442009_1, .int .u64 x442010_1, .int .u64 x442011_1, .int .u64 x442012_1, .int .u64 x442013_1, .int .i64 x442014_1, .int .i64 x442015_1, .int .i64 x442016_1] ?hx ?hy ?hb ?hi ?ho ?h1 ?_; (case hx => rfl); (case hy => first | rfl | (go_simp; done) | (go_simp; rfl)); (case hb => exact (by (with_reducible repeat (first | refine blk_drewN ?_ _ | refine blk_drew ?_ | refine blk_alloc ?_ _)); exact BK440.out)); (case hi => kernel_rfl); (case ho => rfl); (case h1 => simp [Value.oneCell']); intro w38_ hbox hgr; have n_gb440 : Aside0 (w38_.heap[gb440]? = some (.cells #[.bool x442000_1, .int .i64 x442001_1, .int .i64 x442002_1, .int .i64 x442003_1, .int .i64 x442004_1, .int .i64 x442005_1, .int .i64 x442006_1, .int .u32 x442007_1, .int .u32 x442008_1, .int .u32 x442009_1, .int .u64 x442010_1, .int .u64 x442011_1, .int .u64 x442012_1, .int .u64 x442013_1, .int .i64 x442014_1, .int .i64 x442015_1, .int .i64 x442016_1] 38 (0, 0))) := ⟨hbox⟩; have n_HB : Aside0 (Below w.heap.size w w38_) := ⟨below_grew1 (by repeat (first | (with_reducible first | exact HB.out | apply below_alloc | apply pw_below_drewN | apply below_drew1) | exact HB.out)) hgr GE440.out⟩; clear BK440; have BK440 := n_gb440; clear n_gb440; clear HB; have HB := n_HB; clear n_HB; clear hbox hgr))
        refine bodyPost_ret (results_cell_row rfl _ _ gb440 38 #[.bool x442000_1, .int .i64 x442001_1, .int .i64 x442002_1, .int .i64 x442003_1, .int .i64 x442004_1, .int .i64 x442005_1, .int .i64 x442006_1, .int .u32 x442007_1, .int .u32 x442008_1, .int .u32 x442009_1, .int .u64 x442010_1, .int .u64 x442011_1, .int .u64 x442012_1, .int .u64 x442013_1, .int .i64 x442014_1, .int .i64 x442015_1, .int .i64 x442016_1] (0, 0) _ rfl (by (with_reducible repeat (first | refine blk_drewN ?_ _ | refine blk_drew ?_ | refine blk_alloc ?_ _)); exact BK440.out) Try.underlying38 rfl (by kernel_rfl)) rfl ?_
        exact ⟨by first | rfl | (simp [errW_none, errW_some] <;> rfl) | (simp [*, errW_none, errW_some] <;> rfl), by repeat (first | (with_reducible first | exact HB.out | apply below_alloc | apply pw_below_drewN | apply below_drew1 | refine below_set ?_ GE438.out | refine below_set ?_ GE439.out | refine below_set ?_ GE440.out | refine below_set ?_ GE441.out) | exact HB.out)⟩

end Go.Proofs.Ytcnckfhibmlioaa.PFa
