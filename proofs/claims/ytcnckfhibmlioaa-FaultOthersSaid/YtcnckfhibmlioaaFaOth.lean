/- The walk of timesynclaw55_FaultOthers, its ways that return true. -/
import Derived.Test.YtcnckfhibmlioaaPFax0
import Derived.Test.YtcnckfhibmlioaaPFax1
import Derived.Test.YtcnckfhibmlioaaPFax2
import Derived.Test.YtcnckfhibmlioaaPFax6
import Derived.Test.YtcnckfhibmlioaaPFax7
import Derived.Test.YtcnckfhibmlioaaPFax9
namespace Go.Proofs.Ytcnckfhibmlioaa.PFa
open Go.RowKit Go.Proofs.YtcnckfhibmlioaaW.PrintWords Go.Proofs.YtcnckfhibmlioaaW.PrintLast Go.Proofs.YtcnckfhibmlioaaW.PrintMore
attribute [local go_sem] max2_int min2_int max_two min_two max_three min_three max_four min_four   -- for this text's walks alone
set_option linter.unusedVariables false
set_option linter.unusedSimpArgs false
theorem below_grew1 {w W W1 : World} {g : Nat} (h : Below w.heap.size w W) (k : Ob.Grew W W1 (some g)) (hg : w.heap.size ≤ g) : Below w.heap.size w W1 :=
  ⟨k.out.os.trans h.os, k.out.tape.trans h.tape, k.out.output.trans h.output, Nat.le_trans h.size k.out.size, fun i hi => (k.out.block i (Nat.lt_of_lt_of_le hi h.size) (fun e => by cases e; omega)).trans (h.block i hi)⟩
theorem ld_row {P : Program} {a : Act} {o : Oper} {W : World} (ty : TypeId) (x : Operand) (ho : o.op = .load ty x) {g : Nat} {t : TypeId} {cs : Array Value} (d : TypeDesc) (hx : a.eval x = .pointer (some ⟨g, 0, none⟩)) (hg : W.heap[g]? = some (.cells cs t (0, 0)))
    (hu : P.underlying ty = some d) (hd : (match d with | .struct _ | .array _ _ => true | _ => false) = true) (hi : (P.info? ty).map (·.size) = some cs.size) : (execOp a.eval o).run P W = .ok (.value (.agg cs)) W := by
  unfold execOp
  simp only [ho, hx, Instr.loadAt, Instr.sureAddr, Sem.run_bind, Sem.run_pure, Result.andThen_ok, run_loadVar_row W g t ty cs (0, 0) d hg hu hd hi]
theorem inf33 : (Try.prog.info? 33).map (·.size) = some 13 := by kernel_rfl
theorem inf35 : (Try.prog.info? 35).map (·.size) = some 2 := by kernel_rfl
theorem inf38 : (Try.prog.info? 38).map (·.size) = some 17 := by kernel_rfl
theorem eqA38 (d : Nat) (w : World) (x0 y0 : Bool) (x1 y1 : Int) (x2 y2 : Int) (x3 y3 : Int) (x4 y4 : Int) (x5 y5 : Int) (x6 y6 : Int) (x7 y7 : Int) (x8 y8 : Int) (x9 y9 : Int) (x10 y10 : Int) (x11 y11 : Int) (x12 y12 : Int) (x13 y13 : Int) (x14 y14 : Int) (x15 y15 : Int) (x16 y16 : Int) :
    (Op.equalIn (d + 3) 38 (.agg #[.bool x0, .int .i64 x1, .int .i64 x2, .int .i64 x3, .int .i64 x4, .int .i64 x5, .int .i64 x6, .int .u32 x7, .int .u32 x8, .int .u32 x9, .int .u64 x10, .int .u64 x11, .int .u64 x12, .int .u64 x13, .int .i64 x14, .int .i64 x15, .int .i64 x16]) (.agg #[.bool y0, .int .i64 y1, .int .i64 y2, .int .i64 y3, .int .i64 y4, .int .i64 y5, .int .i64 y6, .int .u32 y7, .int .u32 y8, .int .u32 y9, .int .u64 y10, .int .u64 y11, .int .u64 y12, .int .u64 y13, .int .i64 y14, .int .i64 y15, .int .i64 y16])).run Try.prog w = .ok (x0 == y0 && ((x1 == y1 && (x2 == y2 && (x3 == y3 && (x4 == y4 && (x5 == y5 && (x6 == y6 && (x7 == y7 && (x8 == y8 && (x9 == y9 && (x10 == y10 && (x11 == y11 && (x12 == y12 && (x13 == y13))))))))))))) && ((x14 == y14 && (x15 == y15)) && (x16 == y16)))) w := by
  refine eqA_of Try.underlying38 (by kernel_rfl) ?_
  refine eqf_cons (by rfl) (by go_simp; rfl) (by go_simp; rfl) (by go_simp) ?_
  refine eqf_cons (by rfl) (by go_simp) (by go_simp) (eqA33 (d + 0) w _ _ _ _ _ _ _ _ _ _ _ _ _ _ _ _ _ _ _ _ _ _ _ _ _ _) ?_
  refine eqf_cons (by rfl) (by go_simp) (by go_simp) (eqA35 (d + 0) w _ _ _ _) ?_
  exact eqf_last (by rfl) (by go_simp; rfl) (by go_simp; rfl) (by go_simp)
attribute [local go_sem high] eqA38
/-! ### timesynclaw55_FaultOthers: function 6 -/
mutual
def timesynclaw55_FaultOthers.l0 : Nat → List (S46) → Int → Int → List (S46) → List (S46) → Int → Int → Int → Int → Int → Int → Int → Int → Int → Int → Int → Int → Int → Int → Int → Int → Int → Bool → Int → Int → Int → Int → Int → Int → Int → Int → Int → Int → Int → Int → Int → Int → Int → Int → Option (Bool)
  | 0, _, _, _, _, _, _, _, _, _, _, _, _, _, _, _, _, _, _, _, _, _, _, _, _, _, _, _, _, _, _, _, _, _, _, _, _, _, _, _ => none
  | k + 1, x0, x1, x2, x12, x22, x23, x24, x159000, x159001, x159002, x159003, x159004, x159005, x159006, x159007, x159008, x159009, x159010, x159011, x159012, x160000, x160001, x163000, x163001, x163002, x163003, x163004, x163005, x163006, x163007, x163008, x163009, x163010, x163011, x163012, x163013, x163014, x163015, x163016 => if x24 < x23 then (if 0 ≤ x24 then (if x24 < (x22.length : Int) then (if ((rd_T46 x22 x24).f0) = x1 then (if ((rd_T46 x22 x24).f1) ≤ x2 then (if x2 < ((rd_T46 x22 x24).f2) then (if x12.length < 3518437208883 then (timesynclaw55_FaultOthers.l0 k x0 x1 x2 (x12 ++ [(⟨(rd_T46 x22 x24).f0, (rd_T46 x22 x24).f1, (rd_T46 x22 x24).f2, (rd_T46 x22 x24).f3, (rd_T46 x22 x24).f4⟩ : S46)]) x22 x23 (wrap64 (x24 + 1)) x159000 x159001 x159002 x159003 x159004 x159005 x159006 x159007 x159008 x159009 x159010 x159011 x159012 x160000 x160001 x163000 x163001 x163002 x163003 x163004 x163005 x163006 x163007 x163008 x163009 x163010 x163011 x163012 x163013 x163014 x163015 x163016) else (none)) else (timesynclaw55_FaultOthers.l0 k x0 x1 x2 x12 x22 x23 (wrap64 (x24 + 1)) x159000 x159001 x159002 x159003 x159004 x159005 x159006 x159007 x159008 x159009 x159010 x159011 x159012 x160000 x160001 x163000 x163001 x163002 x163003 x163004 x163005 x163006 x163007 x163008 x163009 x163010 x163011 x163012 x163013 x163014 x163015 x163016)) else (timesynclaw55_FaultOthers.l0 k x0 x1 x2 x12 x22 x23 (wrap64 (x24 + 1)) x159000 x159001 x159002 x159003 x159004 x159005 x159006 x159007 x159008 x159009 x159010 x159011 x159012 x160000 x160001 x163000 x163001 x163002 x163003 x163004 x163005 x163006 x163007 x163008 x163009 x163010 x163011 x163012 x163013 x163014 x163015 x163016)) else (timesynclaw55_FaultOthers.l0 k x0 x1 x2 x12 x22 x23 (wrap64 (x24 + 1)) x159000 x159001 x159002 x159003 x159004 x159005 x159006 x159007 x159008 x159009 x159010 x159011 x159012 x160000 x160001 x163000 x163001 x163002 x163003 x163004 x163005 x163006 x163007 x163008 x163009 x163010 x163011 x163012 x163013 x163014 x163015 x163016)) else (none)) else (none)) else ((fault_Check.f k x0).bind fun t168 => (if t168 = 0 then ((fault_Apply.f k x0 x1 x2 x159000 x159001 x159002 x159003 x159004 x159005 x159006 x159007 x159008 x159009 x159010 x159011 x159012 x160000 x160001).bind fun bt187 => (if (x12.length : Int) = 0 then (timesynclaw55_FaultOthers.j1 k x0 x1 x2 x12 (!(bt187.1 == x163000) || ((!(bt187.2.1 == x163001) || (!(bt187.2.2.1 == x163002) || (!(bt187.2.2.2.1 == x163003) || (!(bt187.2.2.2.2.1 == x163004) || (!(bt187.2.2.2.2.2.1 == x163005) || (!(bt187.2.2.2.2.2.2.1 == x163006) || (!(bt187.2.2.2.2.2.2.2.1 == x163007) || (!(bt187.2.2.2.2.2.2.2.2.1 == x163008) || (!(bt187.2.2.2.2.2.2.2.2.2.1 == x163009) || (!(bt187.2.2.2.2.2.2.2.2.2.2.1 == x163010) || (!(bt187.2.2.2.2.2.2.2.2.2.2.2.1 == x163011) || (!(bt187.2.2.2.2.2.2.2.2.2.2.2.2.1 == x163012) || (!(bt187.2.2.2.2.2.2.2.2.2.2.2.2.2.1 == x163013)))))))))))))) || ((!(bt187.2.2.2.2.2.2.2.2.2.2.2.2.2.2.1 == x163014) || (!(bt187.2.2.2.2.2.2.2.2.2.2.2.2.2.2.2.1 == x163015))) || (!(bt187.2.2.2.2.2.2.2.2.2.2.2.2.2.2.2.2 == x163016))))) x159000 x159001 x159002 x159003 x159004 x159005 x159006 x159007 x159008 x159009 x159010 x159011 x159012 x160000 x160001 bt187.1 bt187.2.1 bt187.2.2.1 bt187.2.2.2.1 bt187.2.2.2.2.1 bt187.2.2.2.2.2.1 bt187.2.2.2.2.2.2.1 bt187.2.2.2.2.2.2.2.1 bt187.2.2.2.2.2.2.2.2.1 bt187.2.2.2.2.2.2.2.2.2.1 bt187.2.2.2.2.2.2.2.2.2.2.1 bt187.2.2.2.2.2.2.2.2.2.2.2.1 bt187.2.2.2.2.2.2.2.2.2.2.2.2.1 bt187.2.2.2.2.2.2.2.2.2.2.2.2.2.1 bt187.2.2.2.2.2.2.2.2.2.2.2.2.2.2.1 bt187.2.2.2.2.2.2.2.2.2.2.2.2.2.2.2.1 bt187.2.2.2.2.2.2.2.2.2.2.2.2.2.2.2.2) else (timesynclaw55_FaultOthers.j1 k x0 x1 x2 x12 false x159000 x159001 x159002 x159003 x159004 x159005 x159006 x159007 x159008 x159009 x159010 x159011 x159012 x160000 x160001 bt187.1 bt187.2.1 bt187.2.2.1 bt187.2.2.2.1 bt187.2.2.2.2.1 bt187.2.2.2.2.2.1 bt187.2.2.2.2.2.2.1 bt187.2.2.2.2.2.2.2.1 bt187.2.2.2.2.2.2.2.2.1 bt187.2.2.2.2.2.2.2.2.2.1 bt187.2.2.2.2.2.2.2.2.2.2.1 bt187.2.2.2.2.2.2.2.2.2.2.2.1 bt187.2.2.2.2.2.2.2.2.2.2.2.2.1 bt187.2.2.2.2.2.2.2.2.2.2.2.2.2.1 bt187.2.2.2.2.2.2.2.2.2.2.2.2.2.2.1 bt187.2.2.2.2.2.2.2.2.2.2.2.2.2.2.2.1 bt187.2.2.2.2.2.2.2.2.2.2.2.2.2.2.2.2))) else ((fault_Apply.f k x0 x1 x2 x159000 x159001 x159002 x159003 x159004 x159005 x159006 x159007 x159008 x159009 x159010 x159011 x159012 x160000 x160001).bind fun bt169 => (if (bt169.1 == x163000 && ((bt169.2.1 == x163001 && (bt169.2.2.1 == x163002 && (bt169.2.2.2.1 == x163003 && (bt169.2.2.2.2.1 == x163004 && (bt169.2.2.2.2.2.1 == x163005 && (bt169.2.2.2.2.2.2.1 == x163006 && (bt169.2.2.2.2.2.2.2.1 == x163007 && (bt169.2.2.2.2.2.2.2.2.1 == x163008 && (bt169.2.2.2.2.2.2.2.2.2.1 == x163009 && (bt169.2.2.2.2.2.2.2.2.2.2.1 == x163010 && (bt169.2.2.2.2.2.2.2.2.2.2.2.1 == x163011 && (bt169.2.2.2.2.2.2.2.2.2.2.2.2.1 == x163012 && (bt169.2.2.2.2.2.2.2.2.2.2.2.2.2.1 == x163013))))))))))))) && ((bt169.2.2.2.2.2.2.2.2.2.2.2.2.2.2.1 == x163014 && (bt169.2.2.2.2.2.2.2.2.2.2.2.2.2.2.2.1 == x163015)) && (bt169.2.2.2.2.2.2.2.2.2.2.2.2.2.2.2.2 == x163016)))) = true then ((timesynclaw55_awake.f).bind fun t186 => (some t186)) else (some false)))))
def timesynclaw55_FaultOthers.j1 : Nat → List (S46) → Int → Int → List (S46) → Bool → Int → Int → Int → Int → Int → Int → Int → Int → Int → Int → Int → Int → Int → Int → Int → Bool → Int → Int → Int → Int → Int → Int → Int → Int → Int → Int → Int → Int → Int → Int → Int → Int → Option (Bool)
  | 0, _, _, _, _, _, _, _, _, _, _, _, _, _, _, _, _, _, _, _, _, _, _, _, _, _, _, _, _, _, _, _, _, _, _, _, _, _ => none
  | k + 1, x0, x1, x2, x12, x76, x159000, x159001, x159002, x159003, x159004, x159005, x159006, x159007, x159008, x159009, x159010, x159011, x159012, x160000, x160001, x205000, x205001, x205002, x205003, x205004, x205005, x205006, x205007, x205008, x205009, x205010, x205011, x205012, x205013, x205014, x205015, x205016 => if x76 = true then (some false) else ((fault_Apply.f k x12 x1 x2 x159000 x159001 x159002 x159003 x159004 x159005 x159006 x159007 x159008 x159009 x159010 x159011 x159012 x160000 x160001).bind fun bt205 => (if (x205000 == bt205.1 && ((x205001 == bt205.2.1 && (x205002 == bt205.2.2.1 && (x205003 == bt205.2.2.2.1 && (x205004 == bt205.2.2.2.2.1 && (x205005 == bt205.2.2.2.2.2.1 && (x205006 == bt205.2.2.2.2.2.2.1 && (x205007 == bt205.2.2.2.2.2.2.2.1 && (x205008 == bt205.2.2.2.2.2.2.2.2.1 && (x205009 == bt205.2.2.2.2.2.2.2.2.2.1 && (x205010 == bt205.2.2.2.2.2.2.2.2.2.2.1 && (x205011 == bt205.2.2.2.2.2.2.2.2.2.2.2.1 && (x205012 == bt205.2.2.2.2.2.2.2.2.2.2.2.2.1 && (x205013 == bt205.2.2.2.2.2.2.2.2.2.2.2.2.2.1))))))))))))) && ((x205014 == bt205.2.2.2.2.2.2.2.2.2.2.2.2.2.2.1 && (x205015 == bt205.2.2.2.2.2.2.2.2.2.2.2.2.2.2.2.1)) && (x205016 == bt205.2.2.2.2.2.2.2.2.2.2.2.2.2.2.2.2)))) = true then ((fault_Active.f k x0 x1 x2).bind fun t222 => (if (t222.length : Int) = (x12.length : Int) then ((timesynclaw55_awake.f).bind fun t225 => (some t225)) else (some false))) else (some false)))
end
def timesynclaw55_FaultOthers.f (k : Nat) (l0 : List (S46)) (a1 : Int) (a2 : Int) (a3_0 : Int) (a3_1 : Int) (a3_2 : Int) (a3_3 : Int) (a3_4 : Int) (a3_5 : Int) (a3_6 : Int) (a3_7 : Int) (a3_8 : Int) (a3_9 : Int) (a3_10 : Int) (a3_11 : Int) (a3_12 : Int) (a4_0 : Int) (a4_1 : Int) : Option (Bool) := (timesynclaw55_long.f l0).bind fun t160 => (if t160 = true then ((timesynclaw55_awake.f).bind fun t161 => (some t161)) else (timesynclaw55_FaultOthers.l0 k l0 a1 a2 ([] : List (S46)) l0 (l0.length : Int) 0 a3_0 a3_1 a3_2 a3_3 a3_4 a3_5 a3_6 a3_7 a3_8 a3_9 a3_10 a3_11 a3_12 a4_0 a4_1 false a3_0 a3_1 a3_2 a3_3 a3_4 a3_5 a3_6 a3_7 a3_8 a3_9 a3_10 a3_11 a3_12 a4_0 a4_1 0))
theorem timesynclaw55_FaultOthers.mono_l : ∀ k, (∀ y0 y1 y2 y3 y4 y5 y6 y7 y8 y9 y10 y11 y12 y13 y14 y15 y16 y17 y18 y19 y20 y21 y22 y23 y24 y25 y26 y27 y28 y29 y30 y31 y32 y33 y34 y35 y36 y37 y38, LeO (timesynclaw55_FaultOthers.l0 k y0 y1 y2 y3 y4 y5 y6 y7 y8 y9 y10 y11 y12 y13 y14 y15 y16 y17 y18 y19 y20 y21 y22 y23 y24 y25 y26 y27 y28 y29 y30 y31 y32 y33 y34 y35 y36 y37 y38) (timesynclaw55_FaultOthers.l0 (k + 1) y0 y1 y2 y3 y4 y5 y6 y7 y8 y9 y10 y11 y12 y13 y14 y15 y16 y17 y18 y19 y20 y21 y22 y23 y24 y25 y26 y27 y28 y29 y30 y31 y32 y33 y34 y35 y36 y37 y38)) ∧ (∀ y0 y1 y2 y3 y4 y5 y6 y7 y8 y9 y10 y11 y12 y13 y14 y15 y16 y17 y18 y19 y20 y21 y22 y23 y24 y25 y26 y27 y28 y29 y30 y31 y32 y33 y34 y35 y36, LeO (timesynclaw55_FaultOthers.j1 k y0 y1 y2 y3 y4 y5 y6 y7 y8 y9 y10 y11 y12 y13 y14 y15 y16 y17 y18 y19 y20 y21 y22 y23 y24 y25 y26 y27 y28 y29 y30 y31 y32 y33 y34 y35 y36) (timesynclaw55_FaultOthers.j1 (k + 1) y0 y1 y2 y3 y4 y5 y6 y7 y8 y9 y10 y11 y12 y13 y14 y15 y16 y17 y18 y19 y20 y21 y22 y23 y24 y25 y26 y27 y28 y29 y30 y31 y32 y33 y34 y35 y36))
  | 0 => ⟨fun _ _ _ _ _ _ _ _ _ _ _ _ _ _ _ _ _ _ _ _ _ _ _ _ _ _ _ _ _ _ _ _ _ _ _ _ _ _ _ r h => by simp [timesynclaw55_FaultOthers.l0] at h, fun _ _ _ _ _ _ _ _ _ _ _ _ _ _ _ _ _ _ _ _ _ _ _ _ _ _ _ _ _ _ _ _ _ _ _ _ _ r h => by simp [timesynclaw55_FaultOthers.j1] at h⟩
  | k + 1 => by
    obtain ⟨ih0, ih1⟩ := timesynclaw55_FaultOthers.mono_l k
    refine ⟨?_, ?_⟩
    · intro y0 y1 y2 y3 y4 y5 y6 y7 y8 y9 y10 y11 y12 y13 y14 y15 y16 y17 y18 y19 y20 y21 y22 y23 y24 y25 y26 y27 y28 y29 y30 y31 y32 y33 y34 y35 y36 y37 y38
      unfold timesynclaw55_FaultOthers.l0
      repeat' first
      | (with_reducible exact ih0 _ _ _ _ _ _ _ _ _ _ _ _ _ _ _ _ _ _ _ _ _ _ _ _ _ _ _ _ _ _ _ _ _ _ _ _ _ _ _)
      | (with_reducible exact ih1 _ _ _ _ _ _ _ _ _ _ _ _ _ _ _ _ _ _ _ _ _ _ _ _ _ _ _ _ _ _ _ _ _ _ _ _ _)
      | (with_reducible exact fault_Active.mono _ _ _ _)
      | (with_reducible exact fault_Apply.mono _ _ _ _ _ _ _ _ _ _ _ _ _ _ _ _ _ _ _)
      | (with_reducible exact fault_Check.mono _ _)
      | (with_reducible exact LeO.refl _)
      | (with_reducible exact LeO.none _)
      | (with_reducible refine LeO.ite ?_ ?_)
      | (with_reducible refine LeO.bind ?_ (fun _ => ?_))
      | exact ih0 _ _ _ _ _ _ _ _ _ _ _ _ _ _ _ _ _ _ _ _ _ _ _ _ _ _ _ _ _ _ _ _ _ _ _ _ _ _ _
      | exact ih1 _ _ _ _ _ _ _ _ _ _ _ _ _ _ _ _ _ _ _ _ _ _ _ _ _ _ _ _ _ _ _ _ _ _ _ _ _
      | exact fault_Active.mono _ _ _ _
      | exact fault_Apply.mono _ _ _ _ _ _ _ _ _ _ _ _ _ _ _ _ _ _ _
      | exact fault_Check.mono _ _
      | exact LeO.none _
      | refine LeO.ite ?_ ?_
      | refine LeO.bind ?_ (fun _ => ?_)
    · intro y0 y1 y2 y3 y4 y5 y6 y7 y8 y9 y10 y11 y12 y13 y14 y15 y16 y17 y18 y19 y20 y21 y22 y23 y24 y25 y26 y27 y28 y29 y30 y31 y32 y33 y34 y35 y36
      unfold timesynclaw55_FaultOthers.j1
      repeat' first
      | (with_reducible exact ih0 _ _ _ _ _ _ _ _ _ _ _ _ _ _ _ _ _ _ _ _ _ _ _ _ _ _ _ _ _ _ _ _ _ _ _ _ _ _ _)
      | (with_reducible exact ih1 _ _ _ _ _ _ _ _ _ _ _ _ _ _ _ _ _ _ _ _ _ _ _ _ _ _ _ _ _ _ _ _ _ _ _ _ _)
      | (with_reducible exact fault_Active.mono _ _ _ _)
      | (with_reducible exact fault_Apply.mono _ _ _ _ _ _ _ _ _ _ _ _ _ _ _ _ _ _ _)
      | (with_reducible exact fault_Check.mono _ _)
      | (with_reducible exact LeO.refl _)
      | (with_reducible exact LeO.none _)
      | (with_reducible refine LeO.ite ?_ ?_)
      | (with_reducible refine LeO.bind ?_ (fun _ => ?_))
      | exact ih0 _ _ _ _ _ _ _ _ _ _ _ _ _ _ _ _ _ _ _ _ _ _ _ _ _ _ _ _ _ _ _ _ _ _ _ _ _ _ _
      | exact ih1 _ _ _ _ _ _ _ _ _ _ _ _ _ _ _ _ _ _ _ _ _ _ _ _ _ _ _ _ _ _ _ _ _ _ _ _ _
      | exact fault_Active.mono _ _ _ _
      | exact fault_Apply.mono _ _ _ _ _ _ _ _ _ _ _ _ _ _ _ _ _ _ _
      | exact fault_Check.mono _ _
      | exact LeO.none _
      | refine LeO.ite ?_ ?_
      | refine LeO.bind ?_ (fun _ => ?_)
theorem timesynclaw55_FaultOthers.mono : ∀ a0 a1 a2 a3 a4 a5 a6 a7 a8 a9 a10 a11 a12 a13 a14 a15 a16 a17 k, LeO (timesynclaw55_FaultOthers.f k a0 a1 a2 a3 a4 a5 a6 a7 a8 a9 a10 a11 a12 a13 a14 a15 a16 a17) (timesynclaw55_FaultOthers.f (k + 1) a0 a1 a2 a3 a4 a5 a6 a7 a8 a9 a10 a11 a12 a13 a14 a15 a16 a17) := by
  intro a0 a1 a2 a3 a4 a5 a6 a7 a8 a9 a10 a11 a12 a13 a14 a15 a16 a17 k
  obtain ⟨ih0, ih1⟩ := timesynclaw55_FaultOthers.mono_l k
  unfold timesynclaw55_FaultOthers.f
  repeat' first
      | (with_reducible exact ih0 _ _ _ _ _ _ _ _ _ _ _ _ _ _ _ _ _ _ _ _ _ _ _ _ _ _ _ _ _ _ _ _ _ _ _ _ _ _ _)
      | (with_reducible exact ih1 _ _ _ _ _ _ _ _ _ _ _ _ _ _ _ _ _ _ _ _ _ _ _ _ _ _ _ _ _ _ _ _ _ _ _ _ _)
      | (with_reducible exact fault_Active.mono _ _ _ _)
      | (with_reducible exact fault_Apply.mono _ _ _ _ _ _ _ _ _ _ _ _ _ _ _ _ _ _ _)
      | (with_reducible exact fault_Check.mono _ _)
      | (with_reducible exact LeO.refl _)
      | (with_reducible exact LeO.none _)
      | (with_reducible refine LeO.ite ?_ ?_)
      | (with_reducible refine LeO.bind ?_ (fun _ => ?_))
      | exact ih0 _ _ _ _ _ _ _ _ _ _ _ _ _ _ _ _ _ _ _ _ _ _ _ _ _ _ _ _ _ _ _ _ _ _ _ _ _ _ _
      | exact ih1 _ _ _ _ _ _ _ _ _ _ _ _ _ _ _ _ _ _ _ _ _ _ _ _ _ _ _ _ _ _ _ _ _ _ _ _ _
      | exact fault_Active.mono _ _ _ _
      | exact fault_Apply.mono _ _ _ _ _ _ _ _ _ _ _ _ _ _ _ _ _ _ _
      | exact fault_Check.mono _ _
      | exact LeO.none _
      | refine LeO.ite ?_ ?_
      | refine LeO.bind ?_ (fun _ => ?_)
def timesynclaw55_FaultOthers.T12 : Bool × List (List Nat × List Nat) := (true, [([], []), ([], []), ([], []), ([], []), ([], []), ([0, 1, 2, 3, 4], [0, 1, 2, 3, 4]), ([], []), ([5, 6], [5, 6]), ([7, 5], [7]), ([8, 8], [8]), ([8, 9], [8, 9]), ([10, 9, 0, 1, 2, 3, 4, 5, 6, 7, 8, 9, 10], [10])])
def timesynclaw55_FaultOthers.B12 : List Nat := [0, 0, 0, 0, 0, 31, 0, 127, 255, 511, 1023, 2047]
theorem timesynclaw55_FaultOthers.tab12 : rtab .any (opsOf Try.f6 12) = timesynclaw55_FaultOthers.T12 := by kernel_rfl
theorem timesynclaw55_FaultOthers.bits12 : waitsOk timesynclaw55_FaultOthers.T12.2 timesynclaw55_FaultOthers.B12 = true := by kernel_rfl
def timesynclaw55_FaultOthers.T16 : Bool × List (List Nat × List Nat) := (true, [([], []), ([], []), ([], []), ([], []), ([], []), ([], []), ([1, 2, 3, 4, 5], [1, 2, 3, 4, 5]), ([0, 6], [0, 6]), ([7, 6], [7]), ([8], [8]), ([8], [8]), ([8], [8]), ([9, 10, 11, 8, 8], [8, 9, 10, 11]), ([12, 8], [8, 12]), ([8], [8]), ([14, 8], [8, 14]), ([13, 15, 8], [8, 13, 15]), ([8, 16], [8, 16]), ([17, 12], [17]), ([18, 18], [18]), ([18, 19], [18, 19]), ([20, 19, 0, 1, 2, 3, 4, 5, 6, 7, 8, 9, 10, 11, 12, 13, 14, 15, 16, 17, 18, 19, 20], [20])])
def timesynclaw55_FaultOthers.B16 : List Nat := [0, 0, 0, 0, 0, 0, 62, 127, 255, 511, 511, 511, 4095, 8191, 511, 16895, 65535, 131071, 262143, 524287, 1048575, 2097151]
theorem timesynclaw55_FaultOthers.tab16 : rtab .any (opsOf Try.f6 16) = timesynclaw55_FaultOthers.T16 := by kernel_rfl
theorem timesynclaw55_FaultOthers.bits16 : waitsOk timesynclaw55_FaultOthers.T16.2 timesynclaw55_FaultOthers.B16 = true := by kernel_rfl
set_option maxHeartbeats 8000000 in
set_option maxRecDepth 100000 in
theorem timesynclaw55_FaultOthers.true_ (k : Nat) (A0 : Option Addr) (c0 : Nat) (l0 : List (S46)) (a1 : Int) (a2 : Int) (a3_0 : Int) (a3_1 : Int) (a3_2 : Int) (a3_3 : Int) (a3_4 : Int) (a3_5 : Int) (a3_6 : Int) (a3_7 : Int) (a3_8 : Int) (a3_9 : Int) (a3_10 : Int) (a3_11 : Int) (a3_12 : Int) (a4_0 : Int) (a4_1 : Int) (w : World) (hr0 : Kd.C k46 w A0 l0.length l0) (hc0 : l0.length ≤ c0) (h : timesynclaw55_FaultOthers.f k l0 a1 a2 a3_0 a3_1 a3_2 a3_3 a3_4 a3_5 a3_6 a3_7 a3_8 a3_9 a3_10 a3_11 a3_12 a4_0 a4_1 = some true) :
    Calls Try.prog 6 #[.slice A0 l0.length c0, .int .i64 a1, .int .i64 a2, .agg #[.int .i64 a3_0, .int .i64 a3_1, .int .i64 a3_2, .int .i64 a3_3, .int .i64 a3_4, .int .i64 a3_5, .int .u32 a3_6, .int .u32 a3_7, .int .u32 a3_8, .int .u64 a3_9, .int .u64 a3_10, .int .u64 a3_11, .int .u64 a3_12], .agg #[.int .i64 a4_0, .int .i64 a4_1]] w fun e w' => e = .returned (.bool true) ∧ Below w.heap.size w w' := by
  have hu33 := Try.underlying33
  have hu35 := Try.underlying35
  have hu38 := Try.underlying38
  have hu46 := Try.underlying46
  have HR0 := Aside0.mk hr0
  have HC0 := Aside0.mk hc0
  clear hr0 hc0
  have HB := Aside0.mk (Below.refl w.heap.size w)
  have H : ((timesynclaw55_long.f l0).bind fun t160 => (if t160 = true then ((timesynclaw55_awake.f).bind fun t161 => (some t161)) else (timesynclaw55_FaultOthers.l0 k l0 a1 a2 ([] : List (S46)) l0 (l0.length : Int) 0 a3_0 a3_1 a3_2 a3_3 a3_4 a3_5 a3_6 a3_7 a3_8 a3_9 a3_10 a3_11 a3_12 a4_0 a4_1 false a3_0 a3_1 a3_2 a3_3 a3_4 a3_5 a3_6 a3_7 a3_8 a3_9 a3_10 a3_11 a3_12 a4_0 a4_1 0))) = some true := h
  clear h
  replace H := Option.bind_eq_some_iff.mp H
  obtain ⟨t160, A60, H⟩ := H
  replace H : (if t160 = true then ((timesynclaw55_awake.f).bind fun t161 => (some t161)) else (timesynclaw55_FaultOthers.l0 k l0 a1 a2 ([] : List (S46)) l0 (l0.length : Int) 0 a3_0 a3_1 a3_2 a3_3 a3_4 a3_5 a3_6 a3_7 a3_8 a3_9 a3_10 a3_11 a3_12 a4_0 a4_1 false a3_0 a3_1 a3_2 a3_3 a3_4 a3_5 a3_6 a3_7 a3_8 a3_9 a3_10 a3_11 a3_12 a4_0 a4_1 0)) = some true := H
  have A6 := Aside0.mk A60
  clear A60
  by_cases c7 : t160 = true
  · subst c7
    have H1 : ((timesynclaw55_awake.f).bind fun t161 => (some t161)) = some true := by rw [if_pos rfl] at H; exact H
    clear H
    have H := H1
    clear H1
    replace H := Option.bind_eq_some_iff.mp H
    obtain ⟨t161, A80, H⟩ := H
    replace H : (some t161) = some true := H
    have A8 := Aside0.mk A80
    clear A80
    have hE := Option.some.inj H
    subst hE
    go_enter Try.func6, Try.ntmps6
    go_wp2_with (first | ((with_reducible refine gate_dst (N := 8) rfl ?_); (try (refine gate_guard (by rfl) ?_; dsimp only)); refine box_event ?hg (N := 8) ?hd (cs := #[.int .i64 a3_0, .int .i64 a3_1, .int .i64 a3_2, .int .i64 a3_3, .int .i64 a3_4, .int .i64 a3_5, .int .u32 a3_6, .int .u32 a3_7, .int .u32 a3_8, .int .u64 a3_9, .int .u64 a3_10, .int .u64 a3_11, .int .u64 a3_12]) (t := 33) ?hr ?_; (case hd => rfl); (case hg => rfl); (case hr => first | (go_simp; done) | (go_simp; rfl)); intro gb158 hg w9 hbox hb; have n0_ := Aside0.mk (below_step (by repeat (first | (with_reducible first | exact HB.out | apply below_alloc | apply pw_below_drewN | apply below_drew1) | exact HB.out)) hb); have n1_ := Aside0.mk (hbox); have n2_ := Aside0.mk ((by rw [hg]; exact (below_size (by repeat (first | (with_reducible first | exact HB.out | apply below_alloc | apply pw_below_drewN | apply below_drew1) | exact HB.out))) : w.heap.size ≤ gb158)); have n3_ := Aside0.mk ((by rw [hg]; exact (below_size (by repeat (first | (with_reducible first | exact HB.out | apply below_alloc | apply pw_below_drewN | apply below_drew1) | exact HB.out))) : w.heap.size ≤ gb158)); clear HB; have HB := n0_; have BK158 := n1_; have GW158 := n2_; have GE158 := n3_; clear n0_ n1_ n2_ n3_; clear hb hbox hg) | ((with_reducible refine gate_dst (N := 9) rfl ?_); (try (refine gate_guard (by rfl) ?_; dsimp only)); refine box_event ?hg (N := 9) ?hd (cs := #[.int .i64 a4_0, .int .i64 a4_1]) (t := 35) ?hr ?_; (case hd => rfl); (case hg => rfl); (case hr => first | (go_simp; done) | (go_simp; rfl)); intro gb159 hg w10 hbox hb; have n0_ := Aside0.mk (blk_below (g := gb158) (o := .cells #[.int .i64 a3_0, .int .i64 a3_1, .int .i64 a3_2, .int .i64 a3_3, .int .i64 a3_4, .int .i64 a3_5, .int .u32 a3_6, .int .u32 a3_7, .int .u32 a3_8, .int .u64 a3_9, .int .u64 a3_10, .int .u64 a3_11, .int .u64 a3_12] 33 (0, 0)) (by (with_reducible repeat (first | refine blk_drewN ?_ _ | refine blk_drew ?_ | refine blk_alloc ?_ _)); exact BK158.out) hb); have n1_ := Aside0.mk (below_step (by repeat (first | (with_reducible first | exact HB.out | apply below_alloc | apply pw_below_drewN | apply below_drew1 | refine below_set ?_ GE158.out) | exact HB.out)) hb); have n2_ := Aside0.mk (hbox); have n3_ := Aside0.mk ((by rw [hg]; exact (below_size (by repeat (first | (with_reducible first | exact HB.out | apply below_alloc | apply pw_below_drewN | apply below_drew1 | refine below_set ?_ GE158.out) | exact HB.out))) : w.heap.size ≤ gb159)); have n4_ := Aside0.mk ((by rw [hg]; exact (below_size (by repeat (first | (with_reducible first | exact HB.out | apply below_alloc | apply pw_below_drewN | apply below_drew1 | refine below_set ?_ GE158.out) | exact HB.out))) : w.heap.size ≤ gb159)); have n5_ := Aside0.mk ((by rw [hg]; exact Nat.ne_of_lt (blk_lt (g := gb158) (o := .cells #[.int .i64 a3_0, .int .i64 a3_1, .int .i64 a3_2, .int .i64 a3_3, .int .i64 a3_4, .int .i64 a3_5, .int .u32 a3_6, .int .u32 a3_7, .int .u32 a3_8, .int .u64 a3_9, .int .u64 a3_10, .int .u64 a3_11, .int .u64 a3_12] 33 (0, 0)) (by (with_reducible repeat (first | refine blk_drewN ?_ _ | refine blk_drew ?_ | refine blk_alloc ?_ _)); exact BK158.out)) : gb158 ≠ gb159)); have n6_ := Aside0.mk ((by rw [hg]; exact Nat.ne_of_gt (blk_lt (g := gb158) (o := .cells #[.int .i64 a3_0, .int .i64 a3_1, .int .i64 a3_2, .int .i64 a3_3, .int .i64 a3_4, .int .i64 a3_5, .int .u32 a3_6, .int .u32 a3_7, .int .u32 a3_8, .int .u64 a3_9, .int .u64 a3_10, .int .u64 a3_11, .int .u64 a3_12] 33 (0, 0)) (by (with_reducible repeat (first | refine blk_drewN ?_ _ | refine blk_drew ?_ | refine blk_alloc ?_ _)); exact BK158.out)) : gb159 ≠ gb158)); clear BK158; clear HB; have BK158 := n0_; have HB := n1_; have BK159 := n2_; have GW159 := n3_; have GE159 := n4_; have NB158_159 := n5_; have NB159_158 := n6_; clear n0_ n1_ n2_ n3_ n4_ n5_ n6_; clear hb hbox hg) | ((with_reducible refine gate_callee (f := 11) rfl ?_); refine goesL_ (some 17) rfl rfl Try.func11 (by kernel_rfl) rfl #[.slice A0 l0.length c0] rfl (by (try simp only [List.map_toArray, List.map_cons, List.map_nil]); first | done | rfl | (simp only [List.length_drop, List.length_take]; rfl)) ?_; (with_reducible refine (timesynclaw55_long.calls _ _ l0 true _ ?side1 ?side2 A6.out).mono ?_); (case side1 => repeat (first | exact (Kd.C_below HR0.out HB.out) | (with_reducible refine Kd.C_alloc ?_ _) | (with_reducible refine Kd.C_drewN ?_ _) | (with_reducible refine Kd.C_drew ?_))); (case side2 => exact HC0.out); rintro e w' ⟨rfl, ⟨nd, rfl⟩⟩; refine ⟨_, rfl, ?_⟩) | ((with_reducible refine gate_callee (f := 12) rfl ?_); refine goesL_ (some 18) rfl rfl Try.func12 (by kernel_rfl) rfl #[] rfl (by (try simp only [List.map_toArray, List.map_cons, List.map_nil]); first | done | rfl | (simp only [List.length_drop, List.length_take]; rfl)) ?_; (with_reducible refine (timesynclaw55_awake.calls  true _ A8.out).mono ?_); rintro e w11 ⟨rfl, hb⟩; refine ⟨_, rfl, ?_⟩; have n0_ := Aside0.mk (blk_below (g := gb158) (o := .cells #[.int .i64 a3_0, .int .i64 a3_1, .int .i64 a3_2, .int .i64 a3_3, .int .i64 a3_4, .int .i64 a3_5, .int .u32 a3_6, .int .u32 a3_7, .int .u32 a3_8, .int .u64 a3_9, .int .u64 a3_10, .int .u64 a3_11, .int .u64 a3_12] 33 (0, 0)) (by (with_reducible repeat (first | refine blk_drewN ?_ _ | refine blk_drew ?_ | refine blk_alloc ?_ _)); exact BK158.out) hb); have n1_ := Aside0.mk (blk_below (g := gb159) (o := .cells #[.int .i64 a4_0, .int .i64 a4_1] 35 (0, 0)) (by (with_reducible repeat (first | refine blk_drewN ?_ _ | refine blk_drew ?_ | refine blk_alloc ?_ _)); exact BK159.out) hb); have n2_ := Aside0.mk (below_step (by repeat (first | (with_reducible first | exact HB.out | apply below_alloc | apply pw_below_drewN | apply below_drew1 | refine below_set ?_ GE158.out | refine below_set ?_ GE159.out) | exact HB.out)) hb); clear BK158; clear BK159; clear HB; have BK158 := n0_; have BK159 := n1_; have HB := n2_; clear n0_ n1_ n2_; (try clear hb); (try clear hb2); (try clear hk); (try clear hi)))
    go_ret
    exact ⟨by first | rfl | (simp [errW_none, errW_some] <;> rfl) | (simp [*, errW_none, errW_some] <;> rfl), by repeat (first | (with_reducible first | exact HB.out | apply below_alloc | apply pw_below_drewN | apply below_drew1 | refine below_set ?_ GE158.out | refine below_set ?_ GE159.out) | exact HB.out)⟩
  · replace c7 := Bool.eq_false_iff.mpr c7
    subst c7
    have H1 : (timesynclaw55_FaultOthers.l0 k l0 a1 a2 ([] : List (S46)) l0 (l0.length : Int) 0 a3_0 a3_1 a3_2 a3_3 a3_4 a3_5 a3_6 a3_7 a3_8 a3_9 a3_10 a3_11 a3_12 a4_0 a4_1 false a3_0 a3_1 a3_2 a3_3 a3_4 a3_5 a3_6 a3_7 a3_8 a3_9 a3_10 a3_11 a3_12 a4_0 a4_1 0) = some true := by rw [if_neg (show ¬ (false = true) by decide)] at H; exact H
    clear H
    have H := H1
    clear H1
    have H' := Aside0.mk H
    clear H
    go_enter Try.func6, Try.ntmps6
    go_wp2_with (first | ((with_reducible refine gate_dst (N := 8) rfl ?_); (try (refine gate_guard (by rfl) ?_; dsimp only)); refine box_event ?hg (N := 8) ?hd (cs := #[.int .i64 a3_0, .int .i64 a3_1, .int .i64 a3_2, .int .i64 a3_3, .int .i64 a3_4, .int .i64 a3_5, .int .u32 a3_6, .int .u32 a3_7, .int .u32 a3_8, .int .u64 a3_9, .int .u64 a3_10, .int .u64 a3_11, .int .u64 a3_12]) (t := 33) ?hr ?_; (case hd => rfl); (case hg => rfl); (case hr => first | (go_simp; done) | (go_simp; rfl)); intro gb158 hg w12 hbox hb; have n0_ := Aside0.mk (below_step (by repeat (first | (with_reducible first | exact HB.out | apply below_alloc | apply pw_below_drewN | apply below_drew1) | exact HB.out)) hb); have n1_ := Aside0.mk (hbox); have n2_ := Aside0.mk ((by rw [hg]; exact (below_size (by repeat (first | (with_reducible first | exact HB.out | apply below_alloc | apply pw_below_drewN | apply below_drew1) | exact HB.out))) : w.heap.size ≤ gb158)); have n3_ := Aside0.mk ((by rw [hg]; exact (below_size (by repeat (first | (with_reducible first | exact HB.out | apply below_alloc | apply pw_below_drewN | apply below_drew1) | exact HB.out))) : w.heap.size ≤ gb158)); clear HB; have HB := n0_; have BK158 := n1_; have GW158 := n2_; have GE158 := n3_; clear n0_ n1_ n2_ n3_; clear hb hbox hg) | ((with_reducible refine gate_dst (N := 9) rfl ?_); (try (refine gate_guard (by rfl) ?_; dsimp only)); refine box_event ?hg (N := 9) ?hd (cs := #[.int .i64 a4_0, .int .i64 a4_1]) (t := 35) ?hr ?_; (case hd => rfl); (case hg => rfl); (case hr => first | (go_simp; done) | (go_simp; rfl)); intro gb159 hg w13 hbox hb; have n0_ := Aside0.mk (blk_below (g := gb158) (o := .cells #[.int .i64 a3_0, .int .i64 a3_1, .int .i64 a3_2, .int .i64 a3_3, .int .i64 a3_4, .int .i64 a3_5, .int .u32 a3_6, .int .u32 a3_7, .int .u32 a3_8, .int .u64 a3_9, .int .u64 a3_10, .int .u64 a3_11, .int .u64 a3_12] 33 (0, 0)) (by (with_reducible repeat (first | refine blk_drewN ?_ _ | refine blk_drew ?_ | refine blk_alloc ?_ _)); exact BK158.out) hb); have n1_ := Aside0.mk (below_step (by repeat (first | (with_reducible first | exact HB.out | apply below_alloc | apply pw_below_drewN | apply below_drew1 | refine below_set ?_ GE158.out) | exact HB.out)) hb); have n2_ := Aside0.mk (hbox); have n3_ := Aside0.mk ((by rw [hg]; exact (below_size (by repeat (first | (with_reducible first | exact HB.out | apply below_alloc | apply pw_below_drewN | apply below_drew1 | refine below_set ?_ GE158.out) | exact HB.out))) : w.heap.size ≤ gb159)); have n4_ := Aside0.mk ((by rw [hg]; exact (below_size (by repeat (first | (with_reducible first | exact HB.out | apply below_alloc | apply pw_below_drewN | apply below_drew1 | refine below_set ?_ GE158.out) | exact HB.out))) : w.heap.size ≤ gb159)); have n5_ := Aside0.mk ((by rw [hg]; exact Nat.ne_of_lt (blk_lt (g := gb158) (o := .cells #[.int .i64 a3_0, .int .i64 a3_1, .int .i64 a3_2, .int .i64 a3_3, .int .i64 a3_4, .int .i64 a3_5, .int .u32 a3_6, .int .u32 a3_7, .int .u32 a3_8, .int .u64 a3_9, .int .u64 a3_10, .int .u64 a3_11, .int .u64 a3_12] 33 (0, 0)) (by (with_reducible repeat (first | refine blk_drewN ?_ _ | refine blk_drew ?_ | refine blk_alloc ?_ _)); exact BK158.out)) : gb158 ≠ gb159)); have n6_ := Aside0.mk ((by rw [hg]; exact Nat.ne_of_gt (blk_lt (g := gb158) (o := .cells #[.int .i64 a3_0, .int .i64 a3_1, .int .i64 a3_2, .int .i64 a3_3, .int .i64 a3_4, .int .i64 a3_5, .int .u32 a3_6, .int .u32 a3_7, .int .u32 a3_8, .int .u64 a3_9, .int .u64 a3_10, .int .u64 a3_11, .int .u64 a3_12] 33 (0, 0)) (by (with_reducible repeat (first | refine blk_drewN ?_ _ | refine blk_drew ?_ | refine blk_alloc ?_ _)); exact BK158.out)) : gb159 ≠ gb158)); clear BK158; clear HB; have BK158 := n0_; have HB := n1_; have BK159 := n2_; have GW159 := n3_; have GE159 := n4_; have NB158_159 := n5_; have NB159_158 := n6_; clear n0_ n1_ n2_ n3_ n4_ n5_ n6_; clear hb hbox hg) | ((with_reducible refine gate_callee (f := 11) rfl ?_); refine goesL_ (some 17) rfl rfl Try.func11 (by kernel_rfl) rfl #[.slice A0 l0.length c0] rfl (by (try simp only [List.map_toArray, List.map_cons, List.map_nil]); first | done | rfl | (simp only [List.length_drop, List.length_take]; rfl)) ?_; (with_reducible refine (timesynclaw55_long.calls _ _ l0 false _ ?side1 ?side2 A6.out).mono ?_); (case side1 => repeat (first | exact (Kd.C_below HR0.out HB.out) | (with_reducible refine Kd.C_alloc ?_ _) | (with_reducible refine Kd.C_drewN ?_ _) | (with_reducible refine Kd.C_drew ?_))); (case side2 => exact HC0.out); rintro e w' ⟨rfl, ⟨nd, rfl⟩⟩; refine ⟨_, rfl, ?_⟩; (try (rw [drewN_self w13]; generalize hq_ : World.drewN w13 _ = w13; have n0_ : Aside0 (w13.heap[gb158]? = some (.cells #[.int .i64 a3_0, .int .i64 a3_1, .int .i64 a3_2, .int .i64 a3_3, .int .i64 a3_4, .int .i64 a3_5, .int .u32 a3_6, .int .u32 a3_7, .int .u32 a3_8, .int .u64 a3_9, .int .u64 a3_10, .int .u64 a3_11, .int .u64 a3_12] 33 (0, 0))) := ⟨by rw [← hq_]; exact (by (with_reducible repeat (first | refine blk_drewN ?_ _ | refine blk_drew ?_ | refine blk_alloc ?_ _)); exact BK158.out)⟩; have n1_ : Aside0 (w13.heap[gb159]? = some (.cells #[.int .i64 a4_0, .int .i64 a4_1] 35 (0, 0))) := ⟨by rw [← hq_]; exact (by (with_reducible repeat (first | refine blk_drewN ?_ _ | refine blk_drew ?_ | refine blk_alloc ?_ _)); exact BK159.out)⟩; have n2_ : Aside0 (Below w.heap.size w w13) := ⟨by rw [← hq_]; exact (by repeat (first | (with_reducible first | exact HB.out | apply below_alloc | apply pw_below_drewN | apply below_drew1 | refine below_set ?_ GE158.out | refine below_set ?_ GE159.out) | exact HB.out))⟩; clear BK158 BK159 HB hq_; have BK158 := n0_; have BK159 := n1_; have HB := n2_; clear n0_ n1_ n2_)); have hnb14 := NB158_159.out; have hnc14 := NB159_158.out; have hcz15_0 : w13.cell? ⟨gb158, 0, none⟩ = some (.int .i64 a3_0) := (blk_cell BK158.out 0).trans rfl; have hcz15_1 : w13.cell? ⟨gb158, 1, none⟩ = some (.int .i64 a3_1) := (blk_cell BK158.out 1).trans rfl; have hcz15_2 : w13.cell? ⟨gb158, 2, none⟩ = some (.int .i64 a3_2) := (blk_cell BK158.out 2).trans rfl; have hcz15_3 : w13.cell? ⟨gb158, 3, none⟩ = some (.int .i64 a3_3) := (blk_cell BK158.out 3).trans rfl; have hcz15_4 : w13.cell? ⟨gb158, 4, none⟩ = some (.int .i64 a3_4) := (blk_cell BK158.out 4).trans rfl; have hcz15_5 : w13.cell? ⟨gb158, 5, none⟩ = some (.int .i64 a3_5) := (blk_cell BK158.out 5).trans rfl; have hcz15_6 : w13.cell? ⟨gb158, 6, none⟩ = some (.int .u32 a3_6) := (blk_cell BK158.out 6).trans rfl; have hcz15_7 : w13.cell? ⟨gb158, 7, none⟩ = some (.int .u32 a3_7) := (blk_cell BK158.out 7).trans rfl; have hcz15_8 : w13.cell? ⟨gb158, 8, none⟩ = some (.int .u32 a3_8) := (blk_cell BK158.out 8).trans rfl; have hcz15_9 : w13.cell? ⟨gb158, 9, none⟩ = some (.int .u64 a3_9) := (blk_cell BK158.out 9).trans rfl; have hcz15_10 : w13.cell? ⟨gb158, 10, none⟩ = some (.int .u64 a3_10) := (blk_cell BK158.out 10).trans rfl; have hcz15_11 : w13.cell? ⟨gb158, 11, none⟩ = some (.int .u64 a3_11) := (blk_cell BK158.out 11).trans rfl; have hcz15_12 : w13.cell? ⟨gb158, 12, none⟩ = some (.int .u64 a3_12) := (blk_cell BK158.out 12).trans rfl; have hfz15_0 := blk_frozen BK158.out 0; have hfz15_1 := blk_frozen BK158.out 1; have hfz15_2 := blk_frozen BK158.out 2; have hfz15_3 := blk_frozen BK158.out 3; have hfz15_4 := blk_frozen BK158.out 4; have hfz15_5 := blk_frozen BK158.out 5; have hfz15_6 := blk_frozen BK158.out 6; have hfz15_7 := blk_frozen BK158.out 7; have hfz15_8 := blk_frozen BK158.out 8; have hfz15_9 := blk_frozen BK158.out 9; have hfz15_10 := blk_frozen BK158.out 10; have hfz15_11 := blk_frozen BK158.out 11; have hfz15_12 := blk_frozen BK158.out 12; have hcz16_0 : w13.cell? ⟨gb159, 0, none⟩ = some (.int .i64 a4_0) := (blk_cell BK159.out 0).trans rfl; have hcz16_1 : w13.cell? ⟨gb159, 1, none⟩ = some (.int .i64 a4_1) := (blk_cell BK159.out 1).trans rfl; have hfz16_0 := blk_frozen BK159.out 0; have hfz16_1 := blk_frozen BK159.out 1) | ((with_reducible refine gate_dst (N := 11) rfl ?_); (try (refine gate_guard (by rfl) ?_; dsimp only)); refine box_event ?hg (N := 11) ?hd (cs := #[.bool false, .int .i64 0, .int .i64 0, .int .i64 0, .int .i64 0, .int .i64 0, .int .i64 0, .int .u32 0, .int .u32 0, .int .u32 0, .int .u64 0, .int .u64 0, .int .u64 0, .int .u64 0, .int .i64 0, .int .i64 0, .int .i64 0]) (t := 38) ?hr ?_; (case hd => rfl); (case hg => rfl); (case hr => first | (go_simp; done) | (go_simp; rfl)); intro gb162 hg w17 hbox hb; have n0_ := Aside0.mk (blk_below (g := gb158) (o := .cells #[.int .i64 a3_0, .int .i64 a3_1, .int .i64 a3_2, .int .i64 a3_3, .int .i64 a3_4, .int .i64 a3_5, .int .u32 a3_6, .int .u32 a3_7, .int .u32 a3_8, .int .u64 a3_9, .int .u64 a3_10, .int .u64 a3_11, .int .u64 a3_12] 33 (0, 0)) (by (with_reducible repeat (first | refine blk_drewN ?_ _ | refine blk_drew ?_ | refine blk_alloc ?_ _)); exact BK158.out) hb); have n1_ := Aside0.mk (blk_below (g := gb159) (o := .cells #[.int .i64 a4_0, .int .i64 a4_1] 35 (0, 0)) (by (with_reducible repeat (first | refine blk_drewN ?_ _ | refine blk_drew ?_ | refine blk_alloc ?_ _)); exact BK159.out) hb); have n2_ := Aside0.mk (below_step (by repeat (first | (with_reducible first | exact HB.out | apply below_alloc | apply pw_below_drewN | apply below_drew1 | refine below_set ?_ GE158.out | refine below_set ?_ GE159.out) | exact HB.out)) hb); have n3_ := Aside0.mk (hbox); have n4_ := Aside0.mk ((by rw [hg]; exact (below_size (by repeat (first | (with_reducible first | exact HB.out | apply below_alloc | apply pw_below_drewN | apply below_drew1 | refine below_set ?_ GE158.out | refine below_set ?_ GE159.out) | exact HB.out))) : w.heap.size ≤ gb162)); have n5_ := Aside0.mk ((by rw [hg]; exact (below_size (by repeat (first | (with_reducible first | exact HB.out | apply below_alloc | apply pw_below_drewN | apply below_drew1 | refine below_set ?_ GE158.out | refine below_set ?_ GE159.out) | exact HB.out))) : w.heap.size ≤ gb162)); have n6_ := Aside0.mk ((by rw [hg]; exact Nat.ne_of_lt (blk_lt (g := gb158) (o := .cells #[.int .i64 a3_0, .int .i64 a3_1, .int .i64 a3_2, .int .i64 a3_3, .int .i64 a3_4, .int .i64 a3_5, .int .u32 a3_6, .int .u32 a3_7, .int .u32 a3_8, .int .u64 a3_9, .int .u64 a3_10, .int .u64 a3_11, .int .u64 a3_12] 33 (0, 0)) (by (with_reducible repeat (first | refine blk_drewN ?_ _ | refine blk_drew ?_ | refine blk_alloc ?_ _)); exact BK158.out)) : gb158 ≠ gb162)); have n7_ := Aside0.mk ((by rw [hg]; exact Nat.ne_of_gt (blk_lt (g := gb158) (o := .cells #[.int .i64 a3_0, .int .i64 a3_1, .int .i64 a3_2, .int .i64 a3_3, .int .i64 a3_4, .int .i64 a3_5, .int .u32 a3_6, .int .u32 a3_7, .int .u32 a3_8, .int .u64 a3_9, .int .u64 a3_10, .int .u64 a3_11, .int .u64 a3_12] 33 (0, 0)) (by (with_reducible repeat (first | refine blk_drewN ?_ _ | refine blk_drew ?_ | refine blk_alloc ?_ _)); exact BK158.out)) : gb162 ≠ gb158)); have n8_ := Aside0.mk ((by rw [hg]; exact Nat.ne_of_lt (blk_lt (g := gb159) (o := .cells #[.int .i64 a4_0, .int .i64 a4_1] 35 (0, 0)) (by (with_reducible repeat (first | refine blk_drewN ?_ _ | refine blk_drew ?_ | refine blk_alloc ?_ _)); exact BK159.out)) : gb159 ≠ gb162)); have n9_ := Aside0.mk ((by rw [hg]; exact Nat.ne_of_gt (blk_lt (g := gb159) (o := .cells #[.int .i64 a4_0, .int .i64 a4_1] 35 (0, 0)) (by (with_reducible repeat (first | refine blk_drewN ?_ _ | refine blk_drew ?_ | refine blk_alloc ?_ _)); exact BK159.out)) : gb162 ≠ gb159)); clear BK158; clear BK159; clear HB; have BK158 := n0_; have BK159 := n1_; have HB := n2_; have BK162 := n3_; have GW162 := n4_; have GE162 := n5_; have NB158_162 := n6_; have NB162_158 := n7_; have NB159_162 := n8_; have NB162_159 := n9_; clear n0_ n1_ n2_ n3_ n4_ n5_ n6_ n7_ n8_ n9_; clear hb hbox hg; have hnb18 := NB162_158.out; have hnc18 := NB158_162.out; have hnb19 := NB162_159.out; have hnc19 := NB159_162.out) | ((with_reducible refine gate_store (t := 38) (p := 11) (v := .tmp 21) rfl ?_); refine Ob.ev_store rfl rfl 38 (.tmp 11) (.tmp 21) rfl (g := gb162) (t := 38) (old := ?_) #[.bool false, .int .i64 a3_0, .int .i64 a3_1, .int .i64 a3_2, .int .i64 a3_3, .int .i64 a3_4, .int .i64 a3_5, .int .u32 a3_6, .int .u32 a3_7, .int .u32 a3_8, .int .u64 a3_9, .int .u64 a3_10, .int .u64 a3_11, .int .u64 a3_12, .int .i64 a4_0, .int .i64 a4_1, .int .i64 0] ?hx ?hy ?hb ?hi ?ho ?h1 ?_; (case hx => rfl); (case hy => first | rfl | (go_simp; done) | (go_simp; rfl)); (case hb => exact (by (with_reducible repeat (first | refine blk_drewN ?_ _ | refine blk_drew ?_ | refine blk_alloc ?_ _)); exact BK162.out)); (case hi => kernel_rfl); (case ho => rfl); (case h1 => simp [Value.oneCell']); intro w18 hbox hgr; have n0_ : Aside0 (w18.heap[gb158]? = some (.cells #[.int .i64 a3_0, .int .i64 a3_1, .int .i64 a3_2, .int .i64 a3_3, .int .i64 a3_4, .int .i64 a3_5, .int .u32 a3_6, .int .u32 a3_7, .int .u32 a3_8, .int .u64 a3_9, .int .u64 a3_10, .int .u64 a3_11, .int .u64 a3_12] 33 (0, 0))) := ⟨Ob.Grew.blkFar (t := 33) (cs := #[.int .i64 a3_0, .int .i64 a3_1, .int .i64 a3_2, .int .i64 a3_3, .int .i64 a3_4, .int .i64 a3_5, .int .u32 a3_6, .int .u32 a3_7, .int .u32 a3_8, .int .u64 a3_9, .int .u64 a3_10, .int .u64 a3_11, .int .u64 a3_12]) hgr (by (with_reducible repeat (first | refine blk_drewN ?_ _ | refine blk_drew ?_ | refine blk_alloc ?_ _)); exact BK158.out) NB158_162.out⟩; have n1_ : Aside0 (w18.heap[gb159]? = some (.cells #[.int .i64 a4_0, .int .i64 a4_1] 35 (0, 0))) := ⟨Ob.Grew.blkFar (t := 35) (cs := #[.int .i64 a4_0, .int .i64 a4_1]) hgr (by (with_reducible repeat (first | refine blk_drewN ?_ _ | refine blk_drew ?_ | refine blk_alloc ?_ _)); exact BK159.out) NB159_162.out⟩; have n2_ : Aside0 (w18.heap[gb162]? = some (.cells #[.bool false, .int .i64 a3_0, .int .i64 a3_1, .int .i64 a3_2, .int .i64 a3_3, .int .i64 a3_4, .int .i64 a3_5, .int .u32 a3_6, .int .u32 a3_7, .int .u32 a3_8, .int .u64 a3_9, .int .u64 a3_10, .int .u64 a3_11, .int .u64 a3_12, .int .i64 a4_0, .int .i64 a4_1, .int .i64 0] 38 (0, 0))) := ⟨hbox⟩; have n3_ : Aside0 (Below w.heap.size w w18) := ⟨below_grew1 (by repeat (first | (with_reducible first | exact HB.out | apply below_alloc | apply pw_below_drewN | apply below_drew1) | exact HB.out)) hgr GE162.out⟩; clear BK158; clear BK159; clear BK162; clear HB; have BK158 := n0_; have BK159 := n1_; have BK162 := n2_; have HB := n3_; clear n0_ n1_ n2_ n3_; clear hbox hgr))
    go_loopg [12, 24] k (fun kq v12 v24 w' => ∃ (x12_1 : List (S46)) (x24_1 : Int), v24 = .int .i64 x24_1 ∧ Aside0 (timesynclaw55_FaultOthers.l0 kq l0 a1 a2 x12_1 l0 (l0.length : Int) x24_1 a3_0 a3_1 a3_2 a3_3 a3_4 a3_5 a3_6 a3_7 a3_8 a3_9 a3_10 a3_11 a3_12 a4_0 a4_1 false a3_0 a3_1 a3_2 a3_3 a3_4 a3_5 a3_6 a3_7 a3_8 a3_9 a3_10 a3_11 a3_12 a4_0 a4_1 0 = some true) ∧ Aside0 (kq ≤ k) ∧ Aside0 (Kd.R k46 46 w' w.heap.size (fun _ => True) v12 x12_1) ∧ Aside0 (w'.heap[gb158]? = some (.cells #[.int .i64 a3_0, .int .i64 a3_1, .int .i64 a3_2, .int .i64 a3_3, .int .i64 a3_4, .int .i64 a3_5, .int .u32 a3_6, .int .u32 a3_7, .int .u32 a3_8, .int .u64 a3_9, .int .u64 a3_10, .int .u64 a3_11, .int .u64 a3_12] 33 (0, 0))) ∧ Aside0 (w'.heap[gb159]? = some (.cells #[.int .i64 a4_0, .int .i64 a4_1] 35 (0, 0))) ∧ Aside0 (w'.heap[gb162]? = some (.cells #[.bool false, .int .i64 a3_0, .int .i64 a3_1, .int .i64 a3_2, .int .i64 a3_3, .int .i64 a3_4, .int .i64 a3_5, .int .u32 a3_6, .int .u32 a3_7, .int .u32 a3_8, .int .u64 a3_9, .int .u64 a3_10, .int .u64 a3_11, .int .u64 a3_12, .int .i64 a4_0, .int .i64 a4_1, .int .i64 0] 38 (0, 0))) ∧ Aside0 (Below w.heap.size w w'))
    case atStart => exact ⟨(([] : List (S46))), (0), (by first | rfl | (simp; done) | (simp [*]; done)), H', ⟨Nat.le_refl _⟩, ⟨by first | exact Kd.R_nil _ _ _ _ _ | exact Kd.N_nil _ _ _ _ _ | exact Kd.V_nil _ _ _ _ _ | exact Kd.Q_nil _ _ _ _ _ | exact Kd.S_nil _ _ _ _ _⟩, ⟨by (with_reducible repeat (first | refine blk_drewN ?_ _ | refine blk_drew ?_ | refine blk_alloc ?_ _)); exact BK158.out⟩, ⟨by (with_reducible repeat (first | refine blk_drewN ?_ _ | refine blk_drew ?_ | refine blk_alloc ?_ _)); exact BK159.out⟩, ⟨by (with_reducible repeat (first | refine blk_drewN ?_ _ | refine blk_drew ?_ | refine blk_alloc ?_ _)); exact BK162.out⟩, ⟨by repeat (first | (with_reducible first | exact HB.out | apply below_alloc | apply pw_below_drewN | apply below_drew1) | exact HB.out)⟩⟩
    case round =>
      clear H'
      try clear c1
      try clear p2
      try clear c6
      try clear c7
      try clear c11
      try clear c12
      try clear c14
      try clear c18
      try clear c19
      try clear hcz15_0
      try clear hcz15_1
      try clear hcz15_10
      try clear hcz15_11
      try clear hcz15_12
      try clear hcz15_2
      try clear hcz15_3
      try clear hcz15_4
      try clear hcz15_5
      try clear hcz15_6
      try clear hcz15_7
      try clear hcz15_8
      try clear hcz15_9
      try clear hcz16_0
      try clear hcz16_1
      try clear hcz20_0
      try clear hcz20_1
      try clear hcz20_10
      try clear hcz20_11
      try clear hcz20_12
      try clear hcz20_13
      try clear hcz20_14
      try clear hcz20_15
      try clear hcz20_16
      try clear hcz20_2
      try clear hcz20_3
      try clear hcz20_4
      try clear hcz20_5
      try clear hcz20_6
      try clear hcz20_7
      try clear hcz20_8
      try clear hcz20_9
      try clear hfz15_0
      try clear hfz15_1
      try clear hfz15_10
      try clear hfz15_11
      try clear hfz15_12
      try clear hfz15_2
      try clear hfz15_3
      try clear hfz15_4
      try clear hfz15_5
      try clear hfz15_6
      try clear hfz15_7
      try clear hfz15_8
      try clear hfz15_9
      try clear hfz16_0
      try clear hfz16_1
      try clear hfz20_0
      try clear hfz20_1
      try clear hfz20_10
      try clear hfz20_11
      try clear hfz20_12
      try clear hfz20_13
      try clear hfz20_14
      try clear hfz20_15
      try clear hfz20_16
      try clear hfz20_2
      try clear hfz20_3
      try clear hfz20_4
      try clear hfz20_5
      try clear hfz20_6
      try clear hfz20_7
      try clear hfz20_8
      try clear hfz20_9
      obtain ⟨x12_1, x24_1, rfl, HA, HK1, HO_12, BK158, BK159, BK162, HB⟩ := hrel
      cases gk with
      | zero => exact absurd HA.out (by simp [timesynclaw55_FaultOthers.l0])
      | succ k1 =>
        have H := HA.out
        clear HA
        simp only [timesynclaw55_FaultOthers.l0] at H
        by_cases c21 : x24_1 < (l0.length : Int)
        · rw [if_pos c21] at H
          have c21b0 : decide (x24_1 < (l0.length : Int)) = true := decide_eq_true c21
          clear c21
          by_cases c22 : 0 ≤ x24_1
          · rw [if_pos c22] at H
            have c22b0 : decide (0 ≤ x24_1) = true := decide_eq_true c22
            clear c22
            by_cases c23 : x24_1 < (l0.length : Int)
            · rw [if_pos c23] at H
              have c23b0 : decide (x24_1 < (l0.length : Int)) = true := decide_eq_true c23
              clear c23
              by_cases c24 : ((rd_T46 l0 x24_1).f0) = a1
              · rw [if_pos c24] at H
                have c24b0 : (((rd_T46 l0 x24_1).f0) == a1) = true := beq_iff_eq.mpr c24
                have c24b1 : (((rd_T46 l0 x24_1).f0) != a1) = false := bne_eq_false_iff_eq.mpr c24
                clear c24
                by_cases c25 : ((rd_T46 l0 x24_1).f1) ≤ a2
                · rw [if_pos c25] at H
                  have c25b0 : decide (((rd_T46 l0 x24_1).f1) ≤ a2) = true := decide_eq_true c25
                  clear c25
                  by_cases c26 : a2 < ((rd_T46 l0 x24_1).f2)
                  · rw [if_pos c26] at H
                    have c26b0 : decide (a2 < ((rd_T46 l0 x24_1).f2)) = true := decide_eq_true c26
                    clear c26
                    by_cases c27 : x12_1.length < 3518437208883
                    · rw [if_pos c27] at H
                      have LMc27 := Aside0.mk c27
                      clear c27
                      obtain ⟨y165, hy165⟩ : ∃ y_ : List (S46), y_ = (x12_1 ++ [(⟨(rd_T46 l0 x24_1).f0, (rd_T46 l0 x24_1).f1, (rd_T46 l0 x24_1).f2, (rd_T46 l0 x24_1).f3, (rd_T46 l0 x24_1).f4⟩ : S46)]) := ⟨_, rfl⟩
                      replace H : (timesynclaw55_FaultOthers.l0 k1 l0 a1 a2 y165 l0 (l0.length : Int) (wrap64 (x24_1 + 1)) a3_0 a3_1 a3_2 a3_3 a3_4 a3_5 a3_6 a3_7 a3_8 a3_9 a3_10 a3_11 a3_12 a4_0 a4_1 false a3_0 a3_1 a3_2 a3_3 a3_4 a3_5 a3_6 a3_7 a3_8 a3_9 a3_10 a3_11 a3_12 a4_0 a4_1 0) = some true := by first | (rw [hy165]; with_reducible exact H) | (have H2_ := (Option.bind_some _ _).symm.trans H; rw [hy165]; with_reducible exact H2_) | (have H2_ := (Option.bind_some _ _).symm.trans H; with_reducible exact H2_) | with_reducible exact H | (rw [hy165]; exact H) | exact H
                      have Ny165 := Aside0.mk hy165
                      clear hy165
                      have H' := Aside0.mk H
                      clear H
                      have p163 : 0 ≤ (x24_1 : Int) := of_decide_eq_true (by first | (with_reducible assumption) | assumption)
                      have q163 : x24_1 < (l0.length : Int) := of_decide_eq_true (by first | (with_reducible assumption) | assumption)
                      obtain ⟨ad163, e163, hx163_0, hx163_1, hx163_2, hx163_3, hx163_4⟩ := at_T46 HR0.out x24_1 p163 q163
                      cases e163
                      replace hx163_0 := (HB.out.cell (World.block_lt_of_cell? w _ hx163_0)).trans hx163_0
                      replace hx163_1 := (HB.out.cell (World.block_lt_of_cell? w _ hx163_1)).trans hx163_1
                      replace hx163_2 := (HB.out.cell (World.block_lt_of_cell? w _ hx163_2)).trans hx163_2
                      replace hx163_3 := (HB.out.cell (World.block_lt_of_cell? w _ hx163_3)).trans hx163_3
                      replace hx163_4 := (HB.out.cell (World.block_lt_of_cell? w _ hx163_4)).trans hx163_4
                      replace p163 := eq_true p163
                      replace q163 := eq_true q163
                      go_wp2_with (first | ((with_reducible refine gate_dst (N := 14) rfl ?_); (try (refine gate_guard (by rfl) ?_; dsimp only)); refine box_event ?hg (N := 14) ?hd (cs := #[.int .i64 0, .int .i64 0, .int .i64 0, .int .i64 0, .int .i64 0]) (t := 46) ?hr ?_; (case hd => rfl); (case hg => rfl); (case hr => first | (go_simp; done) | (go_simp; rfl)); intro gb164 hg w28 hbox hb; have n0_ := Aside0.mk (Kd.R_below (Kd.R_elderB (by (with_reducible repeat (first | apply Kd.R_alloc | apply Kd.R_drewN | apply Kd.R_drew)); exact HO_12.out) gb164 (Nat.le_of_eq hg.symm)) hb); have n1_ := Aside0.mk (blk_below (g := gb158) (o := .cells #[.int .i64 a3_0, .int .i64 a3_1, .int .i64 a3_2, .int .i64 a3_3, .int .i64 a3_4, .int .i64 a3_5, .int .u32 a3_6, .int .u32 a3_7, .int .u32 a3_8, .int .u64 a3_9, .int .u64 a3_10, .int .u64 a3_11, .int .u64 a3_12] 33 (0, 0)) (by (with_reducible repeat (first | refine blk_drewN ?_ _ | refine blk_drew ?_ | refine blk_alloc ?_ _)); exact BK158.out) hb); have n2_ := Aside0.mk (blk_below (g := gb159) (o := .cells #[.int .i64 a4_0, .int .i64 a4_1] 35 (0, 0)) (by (with_reducible repeat (first | refine blk_drewN ?_ _ | refine blk_drew ?_ | refine blk_alloc ?_ _)); exact BK159.out) hb); have n3_ := Aside0.mk (blk_below (g := gb162) (o := .cells #[.bool false, .int .i64 a3_0, .int .i64 a3_1, .int .i64 a3_2, .int .i64 a3_3, .int .i64 a3_4, .int .i64 a3_5, .int .u32 a3_6, .int .u32 a3_7, .int .u32 a3_8, .int .u64 a3_9, .int .u64 a3_10, .int .u64 a3_11, .int .u64 a3_12, .int .i64 a4_0, .int .i64 a4_1, .int .i64 0] 38 (0, 0)) (by (with_reducible repeat (first | refine blk_drewN ?_ _ | refine blk_drew ?_ | refine blk_alloc ?_ _)); exact BK162.out) hb); have n4_ := Aside0.mk (below_step (by repeat (first | (with_reducible first | exact HB.out | apply below_alloc | apply pw_below_drewN | apply below_drew1 | refine below_set ?_ GE158.out | refine below_set ?_ GE159.out | refine below_set ?_ GE162.out) | exact HB.out)) hb); have n5_ := Aside0.mk (hbox); have n6_ := Aside0.mk ((by rw [hg]; exact (below_size (by repeat (first | (with_reducible first | exact HB.out | apply below_alloc | apply pw_below_drewN | apply below_drew1 | refine below_set ?_ GE158.out | refine below_set ?_ GE159.out | refine below_set ?_ GE162.out) | exact HB.out))) : w.heap.size ≤ gb164)); have n7_ := Aside0.mk ((by rw [hg]; exact (below_size (by repeat (first | (with_reducible first | exact HB.out | apply below_alloc | apply pw_below_drewN | apply below_drew1 | refine below_set ?_ GE158.out | refine below_set ?_ GE159.out | refine below_set ?_ GE162.out) | exact HB.out))) : w.heap.size ≤ gb164)); have n8_ := Aside0.mk ((by rw [hg]; exact Nat.ne_of_lt (blk_lt (g := gb158) (o := .cells #[.int .i64 a3_0, .int .i64 a3_1, .int .i64 a3_2, .int .i64 a3_3, .int .i64 a3_4, .int .i64 a3_5, .int .u32 a3_6, .int .u32 a3_7, .int .u32 a3_8, .int .u64 a3_9, .int .u64 a3_10, .int .u64 a3_11, .int .u64 a3_12] 33 (0, 0)) (by (with_reducible repeat (first | refine blk_drewN ?_ _ | refine blk_drew ?_ | refine blk_alloc ?_ _)); exact BK158.out)) : gb158 ≠ gb164)); have n9_ := Aside0.mk ((by rw [hg]; exact Nat.ne_of_gt (blk_lt (g := gb158) (o := .cells #[.int .i64 a3_0, .int .i64 a3_1, .int .i64 a3_2, .int .i64 a3_3, .int .i64 a3_4, .int .i64 a3_5, .int .u32 a3_6, .int .u32 a3_7, .int .u32 a3_8, .int .u64 a3_9, .int .u64 a3_10, .int .u64 a3_11, .int .u64 a3_12] 33 (0, 0)) (by (with_reducible repeat (first | refine blk_drewN ?_ _ | refine blk_drew ?_ | refine blk_alloc ?_ _)); exact BK158.out)) : gb164 ≠ gb158)); have n10_ := Aside0.mk ((by rw [hg]; exact Nat.ne_of_lt (blk_lt (g := gb159) (o := .cells #[.int .i64 a4_0, .int .i64 a4_1] 35 (0, 0)) (by (with_reducible repeat (first | refine blk_drewN ?_ _ | refine blk_drew ?_ | refine blk_alloc ?_ _)); exact BK159.out)) : gb159 ≠ gb164)); have n11_ := Aside0.mk ((by rw [hg]; exact Nat.ne_of_gt (blk_lt (g := gb159) (o := .cells #[.int .i64 a4_0, .int .i64 a4_1] 35 (0, 0)) (by (with_reducible repeat (first | refine blk_drewN ?_ _ | refine blk_drew ?_ | refine blk_alloc ?_ _)); exact BK159.out)) : gb164 ≠ gb159)); have n12_ := Aside0.mk ((by rw [hg]; exact Nat.ne_of_lt (blk_lt (g := gb162) (o := .cells #[.bool false, .int .i64 a3_0, .int .i64 a3_1, .int .i64 a3_2, .int .i64 a3_3, .int .i64 a3_4, .int .i64 a3_5, .int .u32 a3_6, .int .u32 a3_7, .int .u32 a3_8, .int .u64 a3_9, .int .u64 a3_10, .int .u64 a3_11, .int .u64 a3_12, .int .i64 a4_0, .int .i64 a4_1, .int .i64 0] 38 (0, 0)) (by (with_reducible repeat (first | refine blk_drewN ?_ _ | refine blk_drew ?_ | refine blk_alloc ?_ _)); exact BK162.out)) : gb162 ≠ gb164)); have n13_ := Aside0.mk ((by rw [hg]; exact Nat.ne_of_gt (blk_lt (g := gb162) (o := .cells #[.bool false, .int .i64 a3_0, .int .i64 a3_1, .int .i64 a3_2, .int .i64 a3_3, .int .i64 a3_4, .int .i64 a3_5, .int .u32 a3_6, .int .u32 a3_7, .int .u32 a3_8, .int .u64 a3_9, .int .u64 a3_10, .int .u64 a3_11, .int .u64 a3_12, .int .i64 a4_0, .int .i64 a4_1, .int .i64 0] 38 (0, 0)) (by (with_reducible repeat (first | refine blk_drewN ?_ _ | refine blk_drew ?_ | refine blk_alloc ?_ _)); exact BK162.out)) : gb164 ≠ gb162)); clear HO_12; clear BK158; clear BK159; clear BK162; clear HB; have HO_12 := n0_; have BK158 := n1_; have BK159 := n2_; have BK162 := n3_; have HB := n4_; have BK164 := n5_; have GW164 := n6_; have GE164 := n7_; have NB158_164 := n8_; have NB164_158 := n9_; have NB159_164 := n10_; have NB164_159 := n11_; have NB162_164 := n12_; have NB164_162 := n13_; clear n0_ n1_ n2_ n3_ n4_ n5_ n6_ n7_ n8_ n9_ n10_ n11_ n12_ n13_; clear hb hbox hg; have hnb29 := NB164_158.out; have hnc29 := NB158_164.out; have hnb30 := NB164_159.out; have hnc30 := NB159_164.out; have hnb31 := NB164_162.out; have hnc31 := NB162_164.out; have hcz32_0 : w28.cell? ⟨gb164, 0, none⟩ = some (.int .i64 0) := (blk_cell BK164.out 0).trans rfl; have hcz32_1 : w28.cell? ⟨gb164, 1, none⟩ = some (.int .i64 0) := (blk_cell BK164.out 1).trans rfl; have hcz32_2 : w28.cell? ⟨gb164, 2, none⟩ = some (.int .i64 0) := (blk_cell BK164.out 2).trans rfl; have hcz32_3 : w28.cell? ⟨gb164, 3, none⟩ = some (.int .i64 0) := (blk_cell BK164.out 3).trans rfl; have hcz32_4 : w28.cell? ⟨gb164, 4, none⟩ = some (.int .i64 0) := (blk_cell BK164.out 4).trans rfl; have hfz32_0 := blk_frozen BK164.out 0; have hfz32_1 := blk_frozen BK164.out 1; have hfz32_2 := blk_frozen BK164.out 2; have hfz32_3 := blk_frozen BK164.out 3; have hfz32_4 := blk_frozen BK164.out 4) | ((with_reducible refine gate_builtin (b := .append) (xs := #[.tmp 44, .tmp 46]) rfl ?_); (try (refine gate_guard (by rfl) ?_; dsimp only)); at_builtin; refine Kd.R_append k46 (w0 := w) w.heap.size rfl (.tmp 44) (.tmp 46) 22 46 (.agg #[(.int .i64 0), (.int .i64 0), (.int .i64 0), (.int .i64 0), (.int .i64 0)]) 40 rfl Try.underlying22 info46 rfl (by decide) (by omega) u12 x12_1 (⟨(rd_T46 l0 x24_1).f0, (rd_T46 l0 x24_1).f1, (rd_T46 l0 x24_1).f2, (rd_T46 l0 x24_1).f3, (rd_T46 l0 x24_1).f4⟩ : S46) [.int .i64 ((rd_T46 l0 x24_1).f0), .int .i64 ((rd_T46 l0 x24_1).f1), .int .i64 ((rd_T46 l0 x24_1).f2), .int .i64 ((rd_T46 l0 x24_1).f3), .int .i64 ((rd_T46 l0 x24_1).f4)] (fun k_ => k_ ≠ gb164) (fun _ => False) rfl (by first | (go_simp; done) | (go_simp; rfl)) ?aP (fun _ hk => hk.elim) ?aF ?aO ?aB ?aS ?aL ?_; (case aP => exact k46_mkM _ _ _ (⟨(rd_T46 l0 x24_1).f0, (rd_T46 l0 x24_1).f1, (rd_T46 l0 x24_1).f2, (rd_T46 l0 x24_1).f3, (rd_T46 l0 x24_1).f4⟩ : S46)); (case aB => exact (by repeat (first | (with_reducible first | exact HB.out | apply below_alloc | apply pw_below_drewN | apply below_drew1 | refine below_set ?_ GE158.out | refine below_set ?_ GE159.out | refine below_set ?_ GE162.out | refine below_set ?_ GE164.out) | exact HB.out))); (case aF => exact (fun k_ hk => Kd.freshB (g := gb164) (o := .cells #[.int .i64 ((rd_T46 l0 x24_1).f0), .int .i64 ((rd_T46 l0 x24_1).f1), .int .i64 ((rd_T46 l0 x24_1).f2), .int .i64 ((rd_T46 l0 x24_1).f3), .int .i64 ((rd_T46 l0 x24_1).f4)] 46 (0, 0)) (by (with_reducible repeat (first | refine blk_drewN ?_ _ | refine blk_drew ?_ | refine blk_alloc ?_ _)); refine blk_put (cs := #[.int .i64 ((rd_T46 l0 x24_1).f0), .int .i64 ((rd_T46 l0 x24_1).f1), .int .i64 ((rd_T46 l0 x24_1).f2), .int .i64 ((rd_T46 l0 x24_1).f3), .int .i64 0]) ?_ 4 _ rfl; (with_reducible repeat (first | refine blk_drewN ?_ _ | refine blk_drew ?_ | refine blk_alloc ?_ _)); refine blk_put (cs := #[.int .i64 ((rd_T46 l0 x24_1).f0), .int .i64 ((rd_T46 l0 x24_1).f1), .int .i64 ((rd_T46 l0 x24_1).f2), .int .i64 0, .int .i64 0]) ?_ 3 _ rfl; (with_reducible repeat (first | refine blk_drewN ?_ _ | refine blk_drew ?_ | refine blk_alloc ?_ _)); refine blk_put (cs := #[.int .i64 ((rd_T46 l0 x24_1).f0), .int .i64 ((rd_T46 l0 x24_1).f1), .int .i64 0, .int .i64 0, .int .i64 0]) ?_ 2 _ rfl; (with_reducible repeat (first | refine blk_drewN ?_ _ | refine blk_drew ?_ | refine blk_alloc ?_ _)); refine blk_put (cs := #[.int .i64 ((rd_T46 l0 x24_1).f0), .int .i64 0, .int .i64 0, .int .i64 0, .int .i64 0]) ?_ 1 _ rfl; (with_reducible repeat (first | refine blk_drewN ?_ _ | refine blk_drew ?_ | refine blk_alloc ?_ _)); refine blk_put (cs := #[.int .i64 0, .int .i64 0, .int .i64 0, .int .i64 0, .int .i64 0]) ?_ 0 _ rfl; (with_reducible repeat (first | refine blk_drewN ?_ _ | refine blk_drew ?_ | refine blk_alloc ?_ _)); exact BK164.out) k_ hk)); (case aO => exact (by (with_reducible repeat (first | apply Kd.R_alloc | apply Kd.R_drewN | apply Kd.R_drew)); exact Kd.R_mono (Kd.R_far (p := ⟨gb164, 4, none⟩) (Kd.R_far (p := ⟨gb164, 3, none⟩) (Kd.R_far (p := ⟨gb164, 2, none⟩) (Kd.R_far (p := ⟨gb164, 1, none⟩) (Kd.R_far (p := ⟨gb164, 0, none⟩) (Kd.R_mono HO_12.out (fun k_ hk => (⟨hk, hk.2⟩ : _ ∧ k_ ≠ gb164))) (fun _ hk => hk.2) (.int .i64 ((rd_T46 l0 x24_1).f0))) (fun _ hk => hk.2) (.int .i64 ((rd_T46 l0 x24_1).f1))) (fun _ hk => hk.2) (.int .i64 ((rd_T46 l0 x24_1).f2))) (fun _ hk => hk.2) (.int .i64 ((rd_T46 l0 x24_1).f3))) (fun _ hk => hk.2) (.int .i64 ((rd_T46 l0 x24_1).f4))) (fun _ hk => hk.1.2))); (case aS => exact (below_size (by repeat (first | (with_reducible first | exact HB.out | apply below_alloc | apply pw_below_drewN | apply below_drew1 | refine below_set ?_ GE158.out | refine below_set ?_ GE159.out | refine below_set ?_ GE162.out | refine below_set ?_ GE164.out) | exact HB.out)))); (case aL => have := LMc27.out; omega); intro v166 w33 ho hb hg hat; rw [← Ny165.out] at ho; have n0_ := Aside0.mk (blk_grown (g := gb158) (o := .cells #[.int .i64 a3_0, .int .i64 a3_1, .int .i64 a3_2, .int .i64 a3_3, .int .i64 a3_4, .int .i64 a3_5, .int .u32 a3_6, .int .u32 a3_7, .int .u32 a3_8, .int .u64 a3_9, .int .u64 a3_10, .int .u64 a3_11, .int .u64 a3_12] 33 (0, 0)) (by (with_reducible repeat (first | refine blk_drewN ?_ _ | refine blk_drew ?_ | refine blk_alloc ?_ _)); refine blk_far ?_ NB158_164.out _; (with_reducible repeat (first | refine blk_drewN ?_ _ | refine blk_drew ?_ | refine blk_alloc ?_ _)); refine blk_far ?_ NB158_164.out _; (with_reducible repeat (first | refine blk_drewN ?_ _ | refine blk_drew ?_ | refine blk_alloc ?_ _)); refine blk_far ?_ NB158_164.out _; (with_reducible repeat (first | refine blk_drewN ?_ _ | refine blk_drew ?_ | refine blk_alloc ?_ _)); refine blk_far ?_ NB158_164.out _; (with_reducible repeat (first | refine blk_drewN ?_ _ | refine blk_drew ?_ | refine blk_alloc ?_ _)); refine blk_far ?_ NB158_164.out _; (with_reducible repeat (first | refine blk_drewN ?_ _ | refine blk_drew ?_ | refine blk_alloc ?_ _)); exact BK158.out) hg (Kd.R_ne HO_12.out BK158.out (by decide))); have n1_ := Aside0.mk (blk_grown (g := gb159) (o := .cells #[.int .i64 a4_0, .int .i64 a4_1] 35 (0, 0)) (by (with_reducible repeat (first | refine blk_drewN ?_ _ | refine blk_drew ?_ | refine blk_alloc ?_ _)); refine blk_far ?_ NB159_164.out _; (with_reducible repeat (first | refine blk_drewN ?_ _ | refine blk_drew ?_ | refine blk_alloc ?_ _)); refine blk_far ?_ NB159_164.out _; (with_reducible repeat (first | refine blk_drewN ?_ _ | refine blk_drew ?_ | refine blk_alloc ?_ _)); refine blk_far ?_ NB159_164.out _; (with_reducible repeat (first | refine blk_drewN ?_ _ | refine blk_drew ?_ | refine blk_alloc ?_ _)); refine blk_far ?_ NB159_164.out _; (with_reducible repeat (first | refine blk_drewN ?_ _ | refine blk_drew ?_ | refine blk_alloc ?_ _)); refine blk_far ?_ NB159_164.out _; (with_reducible repeat (first | refine blk_drewN ?_ _ | refine blk_drew ?_ | refine blk_alloc ?_ _)); exact BK159.out) hg (Kd.R_ne HO_12.out BK159.out (by decide))); have n2_ := Aside0.mk (blk_grown (g := gb162) (o := .cells #[.bool false, .int .i64 a3_0, .int .i64 a3_1, .int .i64 a3_2, .int .i64 a3_3, .int .i64 a3_4, .int .i64 a3_5, .int .u32 a3_6, .int .u32 a3_7, .int .u32 a3_8, .int .u64 a3_9, .int .u64 a3_10, .int .u64 a3_11, .int .u64 a3_12, .int .i64 a4_0, .int .i64 a4_1, .int .i64 0] 38 (0, 0)) (by (with_reducible repeat (first | refine blk_drewN ?_ _ | refine blk_drew ?_ | refine blk_alloc ?_ _)); refine blk_far ?_ NB162_164.out _; (with_reducible repeat (first | refine blk_drewN ?_ _ | refine blk_drew ?_ | refine blk_alloc ?_ _)); refine blk_far ?_ NB162_164.out _; (with_reducible repeat (first | refine blk_drewN ?_ _ | refine blk_drew ?_ | refine blk_alloc ?_ _)); refine blk_far ?_ NB162_164.out _; (with_reducible repeat (first | refine blk_drewN ?_ _ | refine blk_drew ?_ | refine blk_alloc ?_ _)); refine blk_far ?_ NB162_164.out _; (with_reducible repeat (first | refine blk_drewN ?_ _ | refine blk_drew ?_ | refine blk_alloc ?_ _)); refine blk_far ?_ NB162_164.out _; (with_reducible repeat (first | refine blk_drewN ?_ _ | refine blk_drew ?_ | refine blk_alloc ?_ _)); exact BK162.out) hg (Kd.R_ne HO_12.out BK162.out (by decide))); have n3_ := Aside0.mk (blk_grown (g := gb164) (o := .cells #[.int .i64 ((rd_T46 l0 x24_1).f0), .int .i64 ((rd_T46 l0 x24_1).f1), .int .i64 ((rd_T46 l0 x24_1).f2), .int .i64 ((rd_T46 l0 x24_1).f3), .int .i64 ((rd_T46 l0 x24_1).f4)] 46 (0, 0)) (by (with_reducible repeat (first | refine blk_drewN ?_ _ | refine blk_drew ?_ | refine blk_alloc ?_ _)); refine blk_put (cs := #[.int .i64 ((rd_T46 l0 x24_1).f0), .int .i64 ((rd_T46 l0 x24_1).f1), .int .i64 ((rd_T46 l0 x24_1).f2), .int .i64 ((rd_T46 l0 x24_1).f3), .int .i64 0]) ?_ 4 _ rfl; (with_reducible repeat (first | refine blk_drewN ?_ _ | refine blk_drew ?_ | refine blk_alloc ?_ _)); refine blk_put (cs := #[.int .i64 ((rd_T46 l0 x24_1).f0), .int .i64 ((rd_T46 l0 x24_1).f1), .int .i64 ((rd_T46 l0 x24_1).f2), .int .i64 0, .int .i64 0]) ?_ 3 _ rfl; (with_reducible repeat (first | refine blk_drewN ?_ _ | refine blk_drew ?_ | refine blk_alloc ?_ _)); refine blk_put (cs := #[.int .i64 ((rd_T46 l0 x24_1).f0), .int .i64 ((rd_T46 l0 x24_1).f1), .int .i64 0, .int .i64 0, .int .i64 0]) ?_ 2 _ rfl; (with_reducible repeat (first | refine blk_drewN ?_ _ | refine blk_drew ?_ | refine blk_alloc ?_ _)); refine blk_put (cs := #[.int .i64 ((rd_T46 l0 x24_1).f0), .int .i64 0, .int .i64 0, .int .i64 0, .int .i64 0]) ?_ 1 _ rfl; (with_reducible repeat (first | refine blk_drewN ?_ _ | refine blk_drew ?_ | refine blk_alloc ?_ _)); refine blk_put (cs := #[.int .i64 0, .int .i64 0, .int .i64 0, .int .i64 0, .int .i64 0]) ?_ 0 _ rfl; (with_reducible repeat (first | refine blk_drewN ?_ _ | refine blk_drew ?_ | refine blk_alloc ?_ _)); exact BK164.out) hg (Kd.R_away HO_12.out (fun _ hk => hk.2))); have n4_ := Aside0.mk (hb); have n5_ := Aside0.mk (ho); clear BK158; clear BK159; clear BK162; clear BK164; clear HB; clear HO_12; have BK158 := n0_; have BK159 := n1_; have BK162 := n2_; have BK164 := n3_; have HB := n4_; have HO167 := n5_; clear n0_ n1_ n2_ n3_ n4_ n5_; clear ho hb hg hat))
                      go_roundg k1
                      case measure => have := HK1.out; omega
                      case rel => exact ⟨(y165), (wrap64 (x24_1 + 1)), (by first | rfl | (simp; done) | (simp [*]; done)), H', ⟨by have := HK1.out; omega⟩, ⟨by (with_reducible repeat (first | apply Kd.R_alloc | apply Kd.R_drewN | apply Kd.R_drew)); exact Kd.R_mono HO167.out (fun _ hk => trivial)⟩, ⟨by (with_reducible repeat (first | refine blk_drewN ?_ _ | refine blk_drew ?_ | refine blk_alloc ?_ _)); exact BK158.out⟩, ⟨by (with_reducible repeat (first | refine blk_drewN ?_ _ | refine blk_drew ?_ | refine blk_alloc ?_ _)); exact BK159.out⟩, ⟨by (with_reducible repeat (first | refine blk_drewN ?_ _ | refine blk_drew ?_ | refine blk_alloc ?_ _)); exact BK162.out⟩, ⟨by repeat (first | (with_reducible first | exact HB.out | apply below_alloc | apply pw_below_drewN | apply below_drew1 | refine below_set ?_ GE158.out | refine below_set ?_ GE159.out | refine below_set ?_ GE162.out | refine below_set ?_ GE164.out) | exact HB.out)⟩⟩
                    · rw [if_neg c27] at H
                      exact absurd H (by simp)
                  · rw [if_neg c26] at H
                    have c26b0 : decide (a2 < ((rd_T46 l0 x24_1).f2)) = false := decide_eq_false c26
                    clear c26
                    have H' := Aside0.mk H
                    clear H
                    have p163 : 0 ≤ (x24_1 : Int) := of_decide_eq_true (by first | (with_reducible assumption) | assumption)
                    have q163 : x24_1 < (l0.length : Int) := of_decide_eq_true (by first | (with_reducible assumption) | assumption)
                    obtain ⟨ad163, e163, hx163_0, hx163_1, hx163_2, hx163_3, hx163_4⟩ := at_T46 HR0.out x24_1 p163 q163
                    cases e163
                    replace hx163_0 := (HB.out.cell (World.block_lt_of_cell? w _ hx163_0)).trans hx163_0
                    replace hx163_1 := (HB.out.cell (World.block_lt_of_cell? w _ hx163_1)).trans hx163_1
                    replace hx163_2 := (HB.out.cell (World.block_lt_of_cell? w _ hx163_2)).trans hx163_2
                    replace hx163_3 := (HB.out.cell (World.block_lt_of_cell? w _ hx163_3)).trans hx163_3
                    replace hx163_4 := (HB.out.cell (World.block_lt_of_cell? w _ hx163_4)).trans hx163_4
                    replace p163 := eq_true p163
                    replace q163 := eq_true q163
                    go_wp2_with (first | ((with_reducible refine gate_dst (N := 14) rfl ?_); (try (refine gate_guard (by rfl) ?_; dsimp only)); refine box_event ?hg (N := 14) ?hd (cs := #[.int .i64 0, .int .i64 0, .int .i64 0, .int .i64 0, .int .i64 0]) (t := 46) ?hr ?_; (case hd => rfl); (case hg => rfl); (case hr => first | (go_simp; done) | (go_simp; rfl)); intro gb164 hg w34 hbox hb; have n0_ := Aside0.mk (Kd.R_below (Kd.R_elderB (by (with_reducible repeat (first | apply Kd.R_alloc | apply Kd.R_drewN | apply Kd.R_drew)); exact HO_12.out) gb164 (Nat.le_of_eq hg.symm)) hb); have n1_ := Aside0.mk (blk_below (g := gb158) (o := .cells #[.int .i64 a3_0, .int .i64 a3_1, .int .i64 a3_2, .int .i64 a3_3, .int .i64 a3_4, .int .i64 a3_5, .int .u32 a3_6, .int .u32 a3_7, .int .u32 a3_8, .int .u64 a3_9, .int .u64 a3_10, .int .u64 a3_11, .int .u64 a3_12] 33 (0, 0)) (by (with_reducible repeat (first | refine blk_drewN ?_ _ | refine blk_drew ?_ | refine blk_alloc ?_ _)); exact BK158.out) hb); have n2_ := Aside0.mk (blk_below (g := gb159) (o := .cells #[.int .i64 a4_0, .int .i64 a4_1] 35 (0, 0)) (by (with_reducible repeat (first | refine blk_drewN ?_ _ | refine blk_drew ?_ | refine blk_alloc ?_ _)); exact BK159.out) hb); have n3_ := Aside0.mk (blk_below (g := gb162) (o := .cells #[.bool false, .int .i64 a3_0, .int .i64 a3_1, .int .i64 a3_2, .int .i64 a3_3, .int .i64 a3_4, .int .i64 a3_5, .int .u32 a3_6, .int .u32 a3_7, .int .u32 a3_8, .int .u64 a3_9, .int .u64 a3_10, .int .u64 a3_11, .int .u64 a3_12, .int .i64 a4_0, .int .i64 a4_1, .int .i64 0] 38 (0, 0)) (by (with_reducible repeat (first | refine blk_drewN ?_ _ | refine blk_drew ?_ | refine blk_alloc ?_ _)); exact BK162.out) hb); have n4_ := Aside0.mk (below_step (by repeat (first | (with_reducible first | exact HB.out | apply below_alloc | apply pw_below_drewN | apply below_drew1 | refine below_set ?_ GE158.out | refine below_set ?_ GE159.out | refine below_set ?_ GE162.out) | exact HB.out)) hb); have n5_ := Aside0.mk (hbox); have n6_ := Aside0.mk ((by rw [hg]; exact (below_size (by repeat (first | (with_reducible first | exact HB.out | apply below_alloc | apply pw_below_drewN | apply below_drew1 | refine below_set ?_ GE158.out | refine below_set ?_ GE159.out | refine below_set ?_ GE162.out) | exact HB.out))) : w.heap.size ≤ gb164)); have n7_ := Aside0.mk ((by rw [hg]; exact (below_size (by repeat (first | (with_reducible first | exact HB.out | apply below_alloc | apply pw_below_drewN | apply below_drew1 | refine below_set ?_ GE158.out | refine below_set ?_ GE159.out | refine below_set ?_ GE162.out) | exact HB.out))) : w.heap.size ≤ gb164)); have n8_ := Aside0.mk ((by rw [hg]; exact Nat.ne_of_lt (blk_lt (g := gb158) (o := .cells #[.int .i64 a3_0, .int .i64 a3_1, .int .i64 a3_2, .int .i64 a3_3, .int .i64 a3_4, .int .i64 a3_5, .int .u32 a3_6, .int .u32 a3_7, .int .u32 a3_8, .int .u64 a3_9, .int .u64 a3_10, .int .u64 a3_11, .int .u64 a3_12] 33 (0, 0)) (by (with_reducible repeat (first | refine blk_drewN ?_ _ | refine blk_drew ?_ | refine blk_alloc ?_ _)); exact BK158.out)) : gb158 ≠ gb164)); have n9_ := Aside0.mk ((by rw [hg]; exact Nat.ne_of_gt (blk_lt (g := gb158) (o := .cells #[.int .i64 a3_0, .int .i64 a3_1, .int .i64 a3_2, .int .i64 a3_3, .int .i64 a3_4, .int .i64 a3_5, .int .u32 a3_6, .int .u32 a3_7, .int .u32 a3_8, .int .u64 a3_9, .int .u64 a3_10, .int .u64 a3_11, .int .u64 a3_12] 33 (0, 0)) (by (with_reducible repeat (first | refine blk_drewN ?_ _ | refine blk_drew ?_ | refine blk_alloc ?_ _)); exact BK158.out)) : gb164 ≠ gb158)); have n10_ := Aside0.mk ((by rw [hg]; exact Nat.ne_of_lt (blk_lt (g := gb159) (o := .cells #[.int .i64 a4_0, .int .i64 a4_1] 35 (0, 0)) (by (with_reducible repeat (first | refine blk_drewN ?_ _ | refine blk_drew ?_ | refine blk_alloc ?_ _)); exact BK159.out)) : gb159 ≠ gb164)); have n11_ := Aside0.mk ((by rw [hg]; exact Nat.ne_of_gt (blk_lt (g := gb159) (o := .cells #[.int .i64 a4_0, .int .i64 a4_1] 35 (0, 0)) (by (with_reducible repeat (first | refine blk_drewN ?_ _ | refine blk_drew ?_ | refine blk_alloc ?_ _)); exact BK159.out)) : gb164 ≠ gb159)); have n12_ := Aside0.mk ((by rw [hg]; exact Nat.ne_of_lt (blk_lt (g := gb162) (o := .cells #[.bool false, .int .i64 a3_0, .int .i64 a3_1, .int .i64 a3_2, .int .i64 a3_3, .int .i64 a3_4, .int .i64 a3_5, .int .u32 a3_6, .int .u32 a3_7, .int .u32 a3_8, .int .u64 a3_9, .int .u64 a3_10, .int .u64 a3_11, .int .u64 a3_12, .int .i64 a4_0, .int .i64 a4_1, .int .i64 0] 38 (0, 0)) (by (with_reducible repeat (first | refine blk_drewN ?_ _ | refine blk_drew ?_ | refine blk_alloc ?_ _)); exact BK162.out)) : gb162 ≠ gb164)); have n13_ := Aside0.mk ((by rw [hg]; exact Nat.ne_of_gt (blk_lt (g := gb162) (o := .cells #[.bool false, .int .i64 a3_0, .int .i64 a3_1, .int .i64 a3_2, .int .i64 a3_3, .int .i64 a3_4, .int .i64 a3_5, .int .u32 a3_6, .int .u32 a3_7, .int .u32 a3_8, .int .u64 a3_9, .int .u64 a3_10, .int .u64 a3_11, .int .u64 a3_12, .int .i64 a4_0, .int .i64 a4_1, .int .i64 0] 38 (0, 0)) (by (with_reducible repeat (first | refine blk_drewN ?_ _ | refine blk_drew ?_ | refine blk_alloc ?_ _)); exact BK162.out)) : gb164 ≠ gb162)); clear HO_12; clear BK158; clear BK159; clear BK162; clear HB; have HO_12 := n0_; have BK158 := n1_; have BK159 := n2_; have BK162 := n3_; have HB := n4_; have BK164 := n5_; have GW164 := n6_; have GE164 := n7_; have NB158_164 := n8_; have NB164_158 := n9_; have NB159_164 := n10_; have NB164_159 := n11_; have NB162_164 := n12_; have NB164_162 := n13_; clear n0_ n1_ n2_ n3_ n4_ n5_ n6_ n7_ n8_ n9_ n10_ n11_ n12_ n13_; clear hb hbox hg; have hnb35 := NB164_158.out; have hnc35 := NB158_164.out; have hnb36 := NB164_159.out; have hnc36 := NB159_164.out; have hnb37 := NB164_162.out; have hnc37 := NB162_164.out; have hcz38_0 : w34.cell? ⟨gb164, 0, none⟩ = some (.int .i64 0) := (blk_cell BK164.out 0).trans rfl; have hcz38_1 : w34.cell? ⟨gb164, 1, none⟩ = some (.int .i64 0) := (blk_cell BK164.out 1).trans rfl; have hcz38_2 : w34.cell? ⟨gb164, 2, none⟩ = some (.int .i64 0) := (blk_cell BK164.out 2).trans rfl; have hcz38_3 : w34.cell? ⟨gb164, 3, none⟩ = some (.int .i64 0) := (blk_cell BK164.out 3).trans rfl; have hcz38_4 : w34.cell? ⟨gb164, 4, none⟩ = some (.int .i64 0) := (blk_cell BK164.out 4).trans rfl; have hfz38_0 := blk_frozen BK164.out 0; have hfz38_1 := blk_frozen BK164.out 1; have hfz38_2 := blk_frozen BK164.out 2; have hfz38_3 := blk_frozen BK164.out 3; have hfz38_4 := blk_frozen BK164.out 4))
                    go_roundg k1
                    case measure => have := HK1.out; omega
                    case rel => exact ⟨(x12_1), (wrap64 (x24_1 + 1)), (by first | rfl | (simp; done) | (simp [*]; done)), H', ⟨by have := HK1.out; omega⟩, ⟨by (with_reducible repeat (first | apply Kd.R_alloc | apply Kd.R_drewN | apply Kd.R_drew)); exact Kd.R_mono (Kd.R_far (p := ⟨gb164, 4, none⟩) (Kd.R_far (p := ⟨gb164, 3, none⟩) (Kd.R_far (p := ⟨gb164, 2, none⟩) (Kd.R_far (p := ⟨gb164, 1, none⟩) (Kd.R_far (p := ⟨gb164, 0, none⟩) (Kd.R_mono HO_12.out (fun k_ hk => (⟨hk, hk.2⟩ : _ ∧ k_ ≠ gb164))) (fun _ hk => hk.2) (.int .i64 ((rd_T46 l0 x24_1).f0))) (fun _ hk => hk.2) (.int .i64 ((rd_T46 l0 x24_1).f1))) (fun _ hk => hk.2) (.int .i64 ((rd_T46 l0 x24_1).f2))) (fun _ hk => hk.2) (.int .i64 ((rd_T46 l0 x24_1).f3))) (fun _ hk => hk.2) (.int .i64 ((rd_T46 l0 x24_1).f4))) (fun _ hk => trivial)⟩, ⟨by (with_reducible repeat (first | refine blk_drewN ?_ _ | refine blk_drew ?_ | refine blk_alloc ?_ _)); refine blk_far ?_ NB158_164.out _; (with_reducible repeat (first | refine blk_drewN ?_ _ | refine blk_drew ?_ | refine blk_alloc ?_ _)); refine blk_far ?_ NB158_164.out _; (with_reducible repeat (first | refine blk_drewN ?_ _ | refine blk_drew ?_ | refine blk_alloc ?_ _)); refine blk_far ?_ NB158_164.out _; (with_reducible repeat (first | refine blk_drewN ?_ _ | refine blk_drew ?_ | refine blk_alloc ?_ _)); refine blk_far ?_ NB158_164.out _; (with_reducible repeat (first | refine blk_drewN ?_ _ | refine blk_drew ?_ | refine blk_alloc ?_ _)); refine blk_far ?_ NB158_164.out _; (with_reducible repeat (first | refine blk_drewN ?_ _ | refine blk_drew ?_ | refine blk_alloc ?_ _)); exact BK158.out⟩, ⟨by (with_reducible repeat (first | refine blk_drewN ?_ _ | refine blk_drew ?_ | refine blk_alloc ?_ _)); refine blk_far ?_ NB159_164.out _; (with_reducible repeat (first | refine blk_drewN ?_ _ | refine blk_drew ?_ | refine blk_alloc ?_ _)); refine blk_far ?_ NB159_164.out _; (with_reducible repeat (first | refine blk_drewN ?_ _ | refine blk_drew ?_ | refine blk_alloc ?_ _)); refine blk_far ?_ NB159_164.out _; (with_reducible repeat (first | refine blk_drewN ?_ _ | refine blk_drew ?_ | refine blk_alloc ?_ _)); refine blk_far ?_ NB159_164.out _; (with_reducible repeat (first | refine blk_drewN ?_ _ | refine blk_drew ?_ | refine blk_alloc ?_ _)); refine blk_far ?_ NB159_164.out _; (with_reducible repeat (first | refine blk_drewN ?_ _ | refine blk_drew ?_ | refine blk_alloc ?_ _)); exact BK159.out⟩, ⟨by (with_reducible repeat (first | refine blk_drewN ?_ _ | refine blk_drew ?_ | refine blk_alloc ?_ _)); refine blk_far ?_ NB162_164.out _; (with_reducible repeat (first | refine blk_drewN ?_ _ | refine blk_drew ?_ | refine blk_alloc ?_ _)); refine blk_far ?_ NB162_164.out _; (with_reducible repeat (first | refine blk_drewN ?_ _ | refine blk_drew ?_ | refine blk_alloc ?_ _)); refine blk_far ?_ NB162_164.out _; (with_reducible repeat (first | refine blk_drewN ?_ _ | refine blk_drew ?_ | refine blk_alloc ?_ _)); refine blk_far ?_ NB162_164.out _; (with_reducible repeat (first | refine blk_drewN ?_ _ | refine blk_drew ?_ | refine blk_alloc ?_ _)); refine blk_far ?_ NB162_164.out _; (with_reducible repeat (first | refine blk_drewN ?_ _ | refine blk_drew ?_ | refine blk_alloc ?_ _)); exact BK162.out⟩, ⟨by repeat (first | (with_reducible first | exact HB.out | apply below_alloc | apply pw_below_drewN | apply below_drew1 | refine below_set ?_ GE158.out | refine below_set ?_ GE159.out | refine below_set ?_ GE162.out | refine below_set ?_ GE164.out) | exact HB.out)⟩⟩
                · rw [if_neg c25] at H
                  have c25b0 : decide (((rd_T46 l0 x24_1).f1) ≤ a2) = false := decide_eq_false c25
                  clear c25
                  have H' := Aside0.mk H
                  clear H
                  have p163 : 0 ≤ (x24_1 : Int) := of_decide_eq_true (by first | (with_reducible assumption) | assumption)
                  have q163 : x24_1 < (l0.length : Int) := of_decide_eq_true (by first | (with_reducible assumption) | assumption)
                  obtain ⟨ad163, e163, hx163_0, hx163_1, hx163_2, hx163_3, hx163_4⟩ := at_T46 HR0.out x24_1 p163 q163
                  cases e163
                  replace hx163_0 := (HB.out.cell (World.block_lt_of_cell? w _ hx163_0)).trans hx163_0
                  replace hx163_1 := (HB.out.cell (World.block_lt_of_cell? w _ hx163_1)).trans hx163_1
                  replace hx163_2 := (HB.out.cell (World.block_lt_of_cell? w _ hx163_2)).trans hx163_2
                  replace hx163_3 := (HB.out.cell (World.block_lt_of_cell? w _ hx163_3)).trans hx163_3
                  replace hx163_4 := (HB.out.cell (World.block_lt_of_cell? w _ hx163_4)).trans hx163_4
                  replace p163 := eq_true p163
                  replace q163 := eq_true q163
                  go_wp2_with (first | ((with_reducible refine gate_dst (N := 14) rfl ?_); (try (refine gate_guard (by rfl) ?_; dsimp only)); refine box_event ?hg (N := 14) ?hd (cs := #[.int .i64 0, .int .i64 0, .int .i64 0, .int .i64 0, .int .i64 0]) (t := 46) ?hr ?_; (case hd => rfl); (case hg => rfl); (case hr => first | (go_simp; done) | (go_simp; rfl)); intro gb164 hg w39 hbox hb; have n0_ := Aside0.mk (Kd.R_below (Kd.R_elderB (by (with_reducible repeat (first | apply Kd.R_alloc | apply Kd.R_drewN | apply Kd.R_drew)); exact HO_12.out) gb164 (Nat.le_of_eq hg.symm)) hb); have n1_ := Aside0.mk (blk_below (g := gb158) (o := .cells #[.int .i64 a3_0, .int .i64 a3_1, .int .i64 a3_2, .int .i64 a3_3, .int .i64 a3_4, .int .i64 a3_5, .int .u32 a3_6, .int .u32 a3_7, .int .u32 a3_8, .int .u64 a3_9, .int .u64 a3_10, .int .u64 a3_11, .int .u64 a3_12] 33 (0, 0)) (by (with_reducible repeat (first | refine blk_drewN ?_ _ | refine blk_drew ?_ | refine blk_alloc ?_ _)); exact BK158.out) hb); have n2_ := Aside0.mk (blk_below (g := gb159) (o := .cells #[.int .i64 a4_0, .int .i64 a4_1] 35 (0, 0)) (by (with_reducible repeat (first | refine blk_drewN ?_ _ | refine blk_drew ?_ | refine blk_alloc ?_ _)); exact BK159.out) hb); have n3_ := Aside0.mk (blk_below (g := gb162) (o := .cells #[.bool false, .int .i64 a3_0, .int .i64 a3_1, .int .i64 a3_2, .int .i64 a3_3, .int .i64 a3_4, .int .i64 a3_5, .int .u32 a3_6, .int .u32 a3_7, .int .u32 a3_8, .int .u64 a3_9, .int .u64 a3_10, .int .u64 a3_11, .int .u64 a3_12, .int .i64 a4_0, .int .i64 a4_1, .int .i64 0] 38 (0, 0)) (by (with_reducible repeat (first | refine blk_drewN ?_ _ | refine blk_drew ?_ | refine blk_alloc ?_ _)); exact BK162.out) hb); have n4_ := Aside0.mk (below_step (by repeat (first | (with_reducible first | exact HB.out | apply below_alloc | apply pw_below_drewN | apply below_drew1 | refine below_set ?_ GE158.out | refine below_set ?_ GE159.out | refine below_set ?_ GE162.out) | exact HB.out)) hb); have n5_ := Aside0.mk (hbox); have n6_ := Aside0.mk ((by rw [hg]; exact (below_size (by repeat (first | (with_reducible first | exact HB.out | apply below_alloc | apply pw_below_drewN | apply below_drew1 | refine below_set ?_ GE158.out | refine below_set ?_ GE159.out | refine below_set ?_ GE162.out) | exact HB.out))) : w.heap.size ≤ gb164)); have n7_ := Aside0.mk ((by rw [hg]; exact (below_size (by repeat (first | (with_reducible first | exact HB.out | apply below_alloc | apply pw_below_drewN | apply below_drew1 | refine below_set ?_ GE158.out | refine below_set ?_ GE159.out | refine below_set ?_ GE162.out) | exact HB.out))) : w.heap.size ≤ gb164)); have n8_ := Aside0.mk ((by rw [hg]; exact Nat.ne_of_lt (blk_lt (g := gb158) (o := .cells #[.int .i64 a3_0, .int .i64 a3_1, .int .i64 a3_2, .int .i64 a3_3, .int .i64 a3_4, .int .i64 a3_5, .int .u32 a3_6, .int .u32 a3_7, .int .u32 a3_8, .int .u64 a3_9, .int .u64 a3_10, .int .u64 a3_11, .int .u64 a3_12] 33 (0, 0)) (by (with_reducible repeat (first | refine blk_drewN ?_ _ | refine blk_drew ?_ | refine blk_alloc ?_ _)); exact BK158.out)) : gb158 ≠ gb164)); have n9_ := Aside0.mk ((by rw [hg]; exact Nat.ne_of_gt (blk_lt (g := gb158) (o := .cells #[.int .i64 a3_0, .int .i64 a3_1, .int .i64 a3_2, .int .i64 a3_3, .int .i64 a3_4, .int .i64 a3_5, .int .u32 a3_6, .int .u32 a3_7, .int .u32 a3_8, .int .u64 a3_9, .int .u64 a3_10, .int .u64 a3_11, .int .u64 a3_12] 33 (0, 0)) (by (with_reducible repeat (first | refine blk_drewN ?_ _ | refine blk_drew ?_ | refine blk_alloc ?_ _)); exact BK158.out)) : gb164 ≠ gb158)); have n10_ := Aside0.mk ((by rw [hg]; exact Nat.ne_of_lt (blk_lt (g := gb159) (o := .cells #[.int .i64 a4_0, .int .i64 a4_1] 35 (0, 0)) (by (with_reducible repeat (first | refine blk_drewN ?_ _ | refine blk_drew ?_ | refine blk_alloc ?_ _)); exact BK159.out)) : gb159 ≠ gb164)); have n11_ := Aside0.mk ((by rw [hg]; exact Nat.ne_of_gt (blk_lt (g := gb159) (o := .cells #[.int .i64 a4_0, .int .i64 a4_1] 35 (0, 0)) (by (with_reducible repeat (first | refine blk_drewN ?_ _ | refine blk_drew ?_ | refine blk_alloc ?_ _)); exact BK159.out)) : gb164 ≠ gb159)); have n12_ := Aside0.mk ((by rw [hg]; exact Nat.ne_of_lt (blk_lt (g := gb162) (o := .cells #[.bool false, .int .i64 a3_0, .int .i64 a3_1, .int .i64 a3_2, .int .i64 a3_3, .int .i64 a3_4, .int .i64 a3_5, .int .u32 a3_6, .int .u32 a3_7, .int .u32 a3_8, .int .u64 a3_9, .int .u64 a3_10, .int .u64 a3_11, .int .u64 a3_12, .int .i64 a4_0, .int .i64 a4_1, .int .i64 0] 38 (0, 0)) (by (with_reducible repeat (first | refine blk_drewN ?_ _ | refine blk_drew ?_ | refine blk_alloc ?_ _)); exact BK162.out)) : gb162 ≠ gb164)); have n13_ := Aside0.mk ((by rw [hg]; exact Nat.ne_of_gt (blk_lt (g := gb162) (o := .cells #[.bool false, .int .i64 a3_0, .int .i64 a3_1, .int .i64 a3_2, .int .i64 a3_3, .int .i64 a3_4, .int .i64 a3_5, .int .u32 a3_6, .int .u32 a3_7, .int .u32 a3_8, .int .u64 a3_9, .int .u64 a3_10, .int .u64 a3_11, .int .u64 a3_12, .int .i64 a4_0, .int .i64 a4_1, .int .i64 0] 38 (0, 0)) (by (with_reducible repeat (first | refine blk_drewN ?_ _ | refine blk_drew ?_ | refine blk_alloc ?_ _)); exact BK162.out)) : gb164 ≠ gb162)); clear HO_12; clear BK158; clear BK159; clear BK162; clear HB; have HO_12 := n0_; have BK158 := n1_; have BK159 := n2_; have BK162 := n3_; have HB := n4_; have BK164 := n5_; have GW164 := n6_; have GE164 := n7_; have NB158_164 := n8_; have NB164_158 := n9_; have NB159_164 := n10_; have NB164_159 := n11_; have NB162_164 := n12_; have NB164_162 := n13_; clear n0_ n1_ n2_ n3_ n4_ n5_ n6_ n7_ n8_ n9_ n10_ n11_ n12_ n13_; clear hb hbox hg; have hnb40 := NB164_158.out; have hnc40 := NB158_164.out; have hnb41 := NB164_159.out; have hnc41 := NB159_164.out; have hnb42 := NB164_162.out; have hnc42 := NB162_164.out; have hcz43_0 : w39.cell? ⟨gb164, 0, none⟩ = some (.int .i64 0) := (blk_cell BK164.out 0).trans rfl; have hcz43_1 : w39.cell? ⟨gb164, 1, none⟩ = some (.int .i64 0) := (blk_cell BK164.out 1).trans rfl; have hcz43_2 : w39.cell? ⟨gb164, 2, none⟩ = some (.int .i64 0) := (blk_cell BK164.out 2).trans rfl; have hcz43_3 : w39.cell? ⟨gb164, 3, none⟩ = some (.int .i64 0) := (blk_cell BK164.out 3).trans rfl; have hcz43_4 : w39.cell? ⟨gb164, 4, none⟩ = some (.int .i64 0) := (blk_cell BK164.out 4).trans rfl; have hfz43_0 := blk_frozen BK164.out 0; have hfz43_1 := blk_frozen BK164.out 1; have hfz43_2 := blk_frozen BK164.out 2; have hfz43_3 := blk_frozen BK164.out 3; have hfz43_4 := blk_frozen BK164.out 4))
                  go_roundg k1
                  case measure => have := HK1.out; omega
                  case rel => exact ⟨(x12_1), (wrap64 (x24_1 + 1)), (by first | rfl | (simp; done) | (simp [*]; done)), H', ⟨by have := HK1.out; omega⟩, ⟨by (with_reducible repeat (first | apply Kd.R_alloc | apply Kd.R_drewN | apply Kd.R_drew)); exact Kd.R_mono (Kd.R_far (p := ⟨gb164, 4, none⟩) (Kd.R_far (p := ⟨gb164, 3, none⟩) (Kd.R_far (p := ⟨gb164, 2, none⟩) (Kd.R_far (p := ⟨gb164, 1, none⟩) (Kd.R_far (p := ⟨gb164, 0, none⟩) (Kd.R_mono HO_12.out (fun k_ hk => (⟨hk, hk.2⟩ : _ ∧ k_ ≠ gb164))) (fun _ hk => hk.2) (.int .i64 ((rd_T46 l0 x24_1).f0))) (fun _ hk => hk.2) (.int .i64 ((rd_T46 l0 x24_1).f1))) (fun _ hk => hk.2) (.int .i64 ((rd_T46 l0 x24_1).f2))) (fun _ hk => hk.2) (.int .i64 ((rd_T46 l0 x24_1).f3))) (fun _ hk => hk.2) (.int .i64 ((rd_T46 l0 x24_1).f4))) (fun _ hk => trivial)⟩, ⟨by (with_reducible repeat (first | refine blk_drewN ?_ _ | refine blk_drew ?_ | refine blk_alloc ?_ _)); refine blk_far ?_ NB158_164.out _; (with_reducible repeat (first | refine blk_drewN ?_ _ | refine blk_drew ?_ | refine blk_alloc ?_ _)); refine blk_far ?_ NB158_164.out _; (with_reducible repeat (first | refine blk_drewN ?_ _ | refine blk_drew ?_ | refine blk_alloc ?_ _)); refine blk_far ?_ NB158_164.out _; (with_reducible repeat (first | refine blk_drewN ?_ _ | refine blk_drew ?_ | refine blk_alloc ?_ _)); refine blk_far ?_ NB158_164.out _; (with_reducible repeat (first | refine blk_drewN ?_ _ | refine blk_drew ?_ | refine blk_alloc ?_ _)); refine blk_far ?_ NB158_164.out _; (with_reducible repeat (first | refine blk_drewN ?_ _ | refine blk_drew ?_ | refine blk_alloc ?_ _)); exact BK158.out⟩, ⟨by (with_reducible repeat (first | refine blk_drewN ?_ _ | refine blk_drew ?_ | refine blk_alloc ?_ _)); refine blk_far ?_ NB159_164.out _; (with_reducible repeat (first | refine blk_drewN ?_ _ | refine blk_drew ?_ | refine blk_alloc ?_ _)); refine blk_far ?_ NB159_164.out _; (with_reducible repeat (first | refine blk_drewN ?_ _ | refine blk_drew ?_ | refine blk_alloc ?_ _)); refine blk_far ?_ NB159_164.out _; (with_reducible repeat (first | refine blk_drewN ?_ _ | refine blk_drew ?_ | refine blk_alloc ?_ _)); refine blk_far ?_ NB159_164.out _; (with_reducible repeat (first | refine blk_drewN ?_ _ | refine blk_drew ?_ | refine blk_alloc ?_ _)); refine blk_far ?_ NB159_164.out _; (with_reducible repeat (first | refine blk_drewN ?_ _ | refine blk_drew ?_ | refine blk_alloc ?_ _)); exact BK159.out⟩, ⟨by (with_reducible repeat (first | refine blk_drewN ?_ _ | refine blk_drew ?_ | refine blk_alloc ?_ _)); refine blk_far ?_ NB162_164.out _; (with_reducible repeat (first | refine blk_drewN ?_ _ | refine blk_drew ?_ | refine blk_alloc ?_ _)); refine blk_far ?_ NB162_164.out _; (with_reducible repeat (first | refine blk_drewN ?_ _ | refine blk_drew ?_ | refine blk_alloc ?_ _)); refine blk_far ?_ NB162_164.out _; (with_reducible repeat (first | refine blk_drewN ?_ _ | refine blk_drew ?_ | refine blk_alloc ?_ _)); refine blk_far ?_ NB162_164.out _; (with_reducible repeat (first | refine blk_drewN ?_ _ | refine blk_drew ?_ | refine blk_alloc ?_ _)); refine blk_far ?_ NB162_164.out _; (with_reducible repeat (first | refine blk_drewN ?_ _ | refine blk_drew ?_ | refine blk_alloc ?_ _)); exact BK162.out⟩, ⟨by repeat (first | (with_reducible first | exact HB.out | apply below_alloc | apply pw_below_drewN | apply below_drew1 | refine below_set ?_ GE158.out | refine below_set ?_ GE159.out | refine below_set ?_ GE162.out | refine below_set ?_ GE164.out) | exact HB.out)⟩⟩
              · rw [if_neg c24] at H
                have c24b0 : (((rd_T46 l0 x24_1).f0) == a1) = false := beq_eq_false_iff_ne.mpr c24
                have c24b1 : (((rd_T46 l0 x24_1).f0) != a1) = true := bne_iff_ne.mpr c24
                have H' := Aside0.mk H
                clear H
                have p163 : 0 ≤ (x24_1 : Int) := of_decide_eq_true (by first | (with_reducible assumption) | assumption)
                have q163 : x24_1 < (l0.length : Int) := of_decide_eq_true (by first | (with_reducible assumption) | assumption)
                obtain ⟨ad163, e163, hx163_0, hx163_1, hx163_2, hx163_3, hx163_4⟩ := at_T46 HR0.out x24_1 p163 q163
                cases e163
                replace hx163_0 := (HB.out.cell (World.block_lt_of_cell? w _ hx163_0)).trans hx163_0
                replace hx163_1 := (HB.out.cell (World.block_lt_of_cell? w _ hx163_1)).trans hx163_1
                replace hx163_2 := (HB.out.cell (World.block_lt_of_cell? w _ hx163_2)).trans hx163_2
                replace hx163_3 := (HB.out.cell (World.block_lt_of_cell? w _ hx163_3)).trans hx163_3
                replace hx163_4 := (HB.out.cell (World.block_lt_of_cell? w _ hx163_4)).trans hx163_4
                replace p163 := eq_true p163
                replace q163 := eq_true q163
                go_wp2_with (first | ((with_reducible refine gate_dst (N := 14) rfl ?_); (try (refine gate_guard (by rfl) ?_; dsimp only)); refine box_event ?hg (N := 14) ?hd (cs := #[.int .i64 0, .int .i64 0, .int .i64 0, .int .i64 0, .int .i64 0]) (t := 46) ?hr ?_; (case hd => rfl); (case hg => rfl); (case hr => first | (go_simp; done) | (go_simp; rfl)); intro gb164 hg w44 hbox hb; have n0_ := Aside0.mk (Kd.R_below (Kd.R_elderB (by (with_reducible repeat (first | apply Kd.R_alloc | apply Kd.R_drewN | apply Kd.R_drew)); exact HO_12.out) gb164 (Nat.le_of_eq hg.symm)) hb); have n1_ := Aside0.mk (blk_below (g := gb158) (o := .cells #[.int .i64 a3_0, .int .i64 a3_1, .int .i64 a3_2, .int .i64 a3_3, .int .i64 a3_4, .int .i64 a3_5, .int .u32 a3_6, .int .u32 a3_7, .int .u32 a3_8, .int .u64 a3_9, .int .u64 a3_10, .int .u64 a3_11, .int .u64 a3_12] 33 (0, 0)) (by (with_reducible repeat (first | refine blk_drewN ?_ _ | refine blk_drew ?_ | refine blk_alloc ?_ _)); exact BK158.out) hb); have n2_ := Aside0.mk (blk_below (g := gb159) (o := .cells #[.int .i64 a4_0, .int .i64 a4_1] 35 (0, 0)) (by (with_reducible repeat (first | refine blk_drewN ?_ _ | refine blk_drew ?_ | refine blk_alloc ?_ _)); exact BK159.out) hb); have n3_ := Aside0.mk (blk_below (g := gb162) (o := .cells #[.bool false, .int .i64 a3_0, .int .i64 a3_1, .int .i64 a3_2, .int .i64 a3_3, .int .i64 a3_4, .int .i64 a3_5, .int .u32 a3_6, .int .u32 a3_7, .int .u32 a3_8, .int .u64 a3_9, .int .u64 a3_10, .int .u64 a3_11, .int .u64 a3_12, .int .i64 a4_0, .int .i64 a4_1, .int .i64 0] 38 (0, 0)) (by (with_reducible repeat (first | refine blk_drewN ?_ _ | refine blk_drew ?_ | refine blk_alloc ?_ _)); exact BK162.out) hb); have n4_ := Aside0.mk (below_step (by repeat (first | (with_reducible first | exact HB.out | apply below_alloc | apply pw_below_drewN | apply below_drew1 | refine below_set ?_ GE158.out | refine below_set ?_ GE159.out | refine below_set ?_ GE162.out) | exact HB.out)) hb); have n5_ := Aside0.mk (hbox); have n6_ := Aside0.mk ((by rw [hg]; exact (below_size (by repeat (first | (with_reducible first | exact HB.out | apply below_alloc | apply pw_below_drewN | apply below_drew1 | refine below_set ?_ GE158.out | refine below_set ?_ GE159.out | refine below_set ?_ GE162.out) | exact HB.out))) : w.heap.size ≤ gb164)); have n7_ := Aside0.mk ((by rw [hg]; exact (below_size (by repeat (first | (with_reducible first | exact HB.out | apply below_alloc | apply pw_below_drewN | apply below_drew1 | refine below_set ?_ GE158.out | refine below_set ?_ GE159.out | refine below_set ?_ GE162.out) | exact HB.out))) : w.heap.size ≤ gb164)); have n8_ := Aside0.mk ((by rw [hg]; exact Nat.ne_of_lt (blk_lt (g := gb158) (o := .cells #[.int .i64 a3_0, .int .i64 a3_1, .int .i64 a3_2, .int .i64 a3_3, .int .i64 a3_4, .int .i64 a3_5, .int .u32 a3_6, .int .u32 a3_7, .int .u32 a3_8, .int .u64 a3_9, .int .u64 a3_10, .int .u64 a3_11, .int .u64 a3_12] 33 (0, 0)) (by (with_reducible repeat (first | refine blk_drewN ?_ _ | refine blk_drew ?_ | refine blk_alloc ?_ _)); exact BK158.out)) : gb158 ≠ gb164)); have n9_ := Aside0.mk ((by rw [hg]; exact Nat.ne_of_gt (blk_lt (g := gb158) (o := .cells #[.int .i64 a3_0, .int .i64 a3_1, .int .i64 a3_2, .int .i64 a3_3, .int .i64 a3_4, .int .i64 a3_5, .int .u32 a3_6, .int .u32 a3_7, .int .u32 a3_8, .int .u64 a3_9, .int .u64 a3_10, .int .u64 a3_11, .int .u64 a3_12] 33 (0, 0)) (by (with_reducible repeat (first | refine blk_drewN ?_ _ | refine blk_drew ?_ | refine blk_alloc ?_ _)); exact BK158.out)) : gb164 ≠ gb158)); have n10_ := Aside0.mk ((by rw [hg]; exact Nat.ne_of_lt (blk_lt (g := gb159) (o := .cells #[.int .i64 a4_0, .int .i64 a4_1] 35 (0, 0)) (by (with_reducible repeat (first | refine blk_drewN ?_ _ | refine blk_drew ?_ | refine blk_alloc ?_ _)); exact BK159.out)) : gb159 ≠ gb164)); have n11_ := Aside0.mk ((by rw [hg]; exact Nat.ne_of_gt (blk_lt (g := gb159) (o := .cells #[.int .i64 a4_0, .int .i64 a4_1] 35 (0, 0)) (by (with_reducible repeat (first | refine blk_drewN ?_ _ | refine blk_drew ?_ | refine blk_alloc ?_ _)); exact BK159.out)) : gb164 ≠ gb159)); have n12_ := Aside0.mk ((by rw [hg]; exact Nat.ne_of_lt (blk_lt (g := gb162) (o := .cells #[.bool false, .int .i64 a3_0, .int .i64 a3_1, .int .i64 a3_2, .int .i64 a3_3, .int .i64 a3_4, .int .i64 a3_5, .int .u32 a3_6, .int .u32 a3_7, .int .u32 a3_8, .int .u64 a3_9, .int .u64 a3_10, .int .u64 a3_11, .int .u64 a3_12, .int .i64 a4_0, .int .i64 a4_1, .int .i64 0] 38 (0, 0)) (by (with_reducible repeat (first | refine blk_drewN ?_ _ | refine blk_drew ?_ | refine blk_alloc ?_ _)); exact BK162.out)) : gb162 ≠ gb164)); have n13_ := Aside0.mk ((by rw [hg]; exact Nat.ne_of_gt (blk_lt (g := gb162) (o := .cells #[.bool false, .int .i64 a3_0, .int .i64 a3_1, .int .i64 a3_2, .int .i64 a3_3, .int .i64 a3_4, .int .i64 a3_5, .int .u32 a3_6, .int .u32 a3_7, .int .u32 a3_8, .int .u64 a3_9, .int .u64 a3_10, .int .u64 a3_11, .int .u64 a3_12, .int .i64 a4_0, .int .i64 a4_1, .int .i64 0] 38 (0, 0)) (by (with_reducible repeat (first | refine blk_drewN ?_ _ | refine blk_drew ?_ | refine blk_alloc ?_ _)); exact BK162.out)) : gb164 ≠ gb162)); clear HO_12; clear BK158; clear BK159; clear BK162; clear HB; have HO_12 := n0_; have BK158 := n1_; have BK159 := n2_; have BK162 := n3_; have HB := n4_; have BK164 := n5_; have GW164 := n6_; have GE164 := n7_; have NB158_164 := n8_; have NB164_158 := n9_; have NB159_164 := n10_; have NB164_159 := n11_; have NB162_164 := n12_; have NB164_162 := n13_; clear n0_ n1_ n2_ n3_ n4_ n5_ n6_ n7_ n8_ n9_ n10_ n11_ n12_ n13_; clear hb hbox hg; have hnb45 := NB164_158.out; have hnc45 := NB158_164.out; have hnb46 := NB164_159.out; have hnc46 := NB159_164.out; have hnb47 := NB164_162.out; have hnc47 := NB162_164.out; have hcz48_0 : w44.cell? ⟨gb164, 0, none⟩ = some (.int .i64 0) := (blk_cell BK164.out 0).trans rfl; have hcz48_1 : w44.cell? ⟨gb164, 1, none⟩ = some (.int .i64 0) := (blk_cell BK164.out 1).trans rfl; have hcz48_2 : w44.cell? ⟨gb164, 2, none⟩ = some (.int .i64 0) := (blk_cell BK164.out 2).trans rfl; have hcz48_3 : w44.cell? ⟨gb164, 3, none⟩ = some (.int .i64 0) := (blk_cell BK164.out 3).trans rfl; have hcz48_4 : w44.cell? ⟨gb164, 4, none⟩ = some (.int .i64 0) := (blk_cell BK164.out 4).trans rfl; have hfz48_0 := blk_frozen BK164.out 0; have hfz48_1 := blk_frozen BK164.out 1; have hfz48_2 := blk_frozen BK164.out 2; have hfz48_3 := blk_frozen BK164.out 3; have hfz48_4 := blk_frozen BK164.out 4))
                go_roundg k1
                case measure => have := HK1.out; omega
                case rel => exact ⟨(x12_1), (wrap64 (x24_1 + 1)), (by first | rfl | (simp; done) | (simp [*]; done)), H', ⟨by have := HK1.out; omega⟩, ⟨by (with_reducible repeat (first | apply Kd.R_alloc | apply Kd.R_drewN | apply Kd.R_drew)); exact Kd.R_mono (Kd.R_far (p := ⟨gb164, 4, none⟩) (Kd.R_far (p := ⟨gb164, 3, none⟩) (Kd.R_far (p := ⟨gb164, 2, none⟩) (Kd.R_far (p := ⟨gb164, 1, none⟩) (Kd.R_far (p := ⟨gb164, 0, none⟩) (Kd.R_mono HO_12.out (fun k_ hk => (⟨hk, hk.2⟩ : _ ∧ k_ ≠ gb164))) (fun _ hk => hk.2) (.int .i64 ((rd_T46 l0 x24_1).f0))) (fun _ hk => hk.2) (.int .i64 ((rd_T46 l0 x24_1).f1))) (fun _ hk => hk.2) (.int .i64 ((rd_T46 l0 x24_1).f2))) (fun _ hk => hk.2) (.int .i64 ((rd_T46 l0 x24_1).f3))) (fun _ hk => hk.2) (.int .i64 ((rd_T46 l0 x24_1).f4))) (fun _ hk => trivial)⟩, ⟨by (with_reducible repeat (first | refine blk_drewN ?_ _ | refine blk_drew ?_ | refine blk_alloc ?_ _)); refine blk_far ?_ NB158_164.out _; (with_reducible repeat (first | refine blk_drewN ?_ _ | refine blk_drew ?_ | refine blk_alloc ?_ _)); refine blk_far ?_ NB158_164.out _; (with_reducible repeat (first | refine blk_drewN ?_ _ | refine blk_drew ?_ | refine blk_alloc ?_ _)); refine blk_far ?_ NB158_164.out _; (with_reducible repeat (first | refine blk_drewN ?_ _ | refine blk_drew ?_ | refine blk_alloc ?_ _)); refine blk_far ?_ NB158_164.out _; (with_reducible repeat (first | refine blk_drewN ?_ _ | refine blk_drew ?_ | refine blk_alloc ?_ _)); refine blk_far ?_ NB158_164.out _; (with_reducible repeat (first | refine blk_drewN ?_ _ | refine blk_drew ?_ | refine blk_alloc ?_ _)); exact BK158.out⟩, ⟨by (with_reducible repeat (first | refine blk_drewN ?_ _ | refine blk_drew ?_ | refine blk_alloc ?_ _)); refine blk_far ?_ NB159_164.out _; (with_reducible repeat (first | refine blk_drewN ?_ _ | refine blk_drew ?_ | refine blk_alloc ?_ _)); refine blk_far ?_ NB159_164.out _; (with_reducible repeat (first | refine blk_drewN ?_ _ | refine blk_drew ?_ | refine blk_alloc ?_ _)); refine blk_far ?_ NB159_164.out _; (with_reducible repeat (first | refine blk_drewN ?_ _ | refine blk_drew ?_ | refine blk_alloc ?_ _)); refine blk_far ?_ NB159_164.out _; (with_reducible repeat (first | refine blk_drewN ?_ _ | refine blk_drew ?_ | refine blk_alloc ?_ _)); refine blk_far ?_ NB159_164.out _; (with_reducible repeat (first | refine blk_drewN ?_ _ | refine blk_drew ?_ | refine blk_alloc ?_ _)); exact BK159.out⟩, ⟨by (with_reducible repeat (first | refine blk_drewN ?_ _ | refine blk_drew ?_ | refine blk_alloc ?_ _)); refine blk_far ?_ NB162_164.out _; (with_reducible repeat (first | refine blk_drewN ?_ _ | refine blk_drew ?_ | refine blk_alloc ?_ _)); refine blk_far ?_ NB162_164.out _; (with_reducible repeat (first | refine blk_drewN ?_ _ | refine blk_drew ?_ | refine blk_alloc ?_ _)); refine blk_far ?_ NB162_164.out _; (with_reducible repeat (first | refine blk_drewN ?_ _ | refine blk_drew ?_ | refine blk_alloc ?_ _)); refine blk_far ?_ NB162_164.out _; (with_reducible repeat (first | refine blk_drewN ?_ _ | refine blk_drew ?_ | refine blk_alloc ?_ _)); refine blk_far ?_ NB162_164.out _; (with_reducible repeat (first | refine blk_drewN ?_ _ | refine blk_drew ?_ | refine blk_alloc ?_ _)); exact BK162.out⟩, ⟨by repeat (first | (with_reducible first | exact HB.out | apply below_alloc | apply pw_below_drewN | apply below_drew1 | refine below_set ?_ GE158.out | refine below_set ?_ GE159.out | refine below_set ?_ GE162.out | refine below_set ?_ GE164.out) | exact HB.out)⟩⟩
            · rw [if_neg c23] at H
              exact absurd H (by simp)
          · rw [if_neg c22] at H
            exact absurd H (by simp)
        · rw [if_neg c21] at H
          have c21b0 : decide (x24_1 < (l0.length : Int)) = false := decide_eq_false c21
          clear c21
          replace H := Option.bind_eq_some_iff.mp H
          obtain ⟨t168, A490, H⟩ := H
          replace H : (if t168 = 0 then ((fault_Apply.f k1 l0 a1 a2 a3_0 a3_1 a3_2 a3_3 a3_4 a3_5 a3_6 a3_7 a3_8 a3_9 a3_10 a3_11 a3_12 a4_0 a4_1).bind fun bt187 => (if (x12_1.length : Int) = 0 then (timesynclaw55_FaultOthers.j1 k1 l0 a1 a2 x12_1 (!(bt187.1 == false) || ((!(bt187.2.1 == a3_0) || (!(bt187.2.2.1 == a3_1) || (!(bt187.2.2.2.1 == a3_2) || (!(bt187.2.2.2.2.1 == a3_3) || (!(bt187.2.2.2.2.2.1 == a3_4) || (!(bt187.2.2.2.2.2.2.1 == a3_5) || (!(bt187.2.2.2.2.2.2.2.1 == a3_6) || (!(bt187.2.2.2.2.2.2.2.2.1 == a3_7) || (!(bt187.2.2.2.2.2.2.2.2.2.1 == a3_8) || (!(bt187.2.2.2.2.2.2.2.2.2.2.1 == a3_9) || (!(bt187.2.2.2.2.2.2.2.2.2.2.2.1 == a3_10) || (!(bt187.2.2.2.2.2.2.2.2.2.2.2.2.1 == a3_11) || (!(bt187.2.2.2.2.2.2.2.2.2.2.2.2.2.1 == a3_12)))))))))))))) || ((!(bt187.2.2.2.2.2.2.2.2.2.2.2.2.2.2.1 == a4_0) || (!(bt187.2.2.2.2.2.2.2.2.2.2.2.2.2.2.2.1 == a4_1))) || (!(bt187.2.2.2.2.2.2.2.2.2.2.2.2.2.2.2.2 == 0))))) a3_0 a3_1 a3_2 a3_3 a3_4 a3_5 a3_6 a3_7 a3_8 a3_9 a3_10 a3_11 a3_12 a4_0 a4_1 bt187.1 bt187.2.1 bt187.2.2.1 bt187.2.2.2.1 bt187.2.2.2.2.1 bt187.2.2.2.2.2.1 bt187.2.2.2.2.2.2.1 bt187.2.2.2.2.2.2.2.1 bt187.2.2.2.2.2.2.2.2.1 bt187.2.2.2.2.2.2.2.2.2.1 bt187.2.2.2.2.2.2.2.2.2.2.1 bt187.2.2.2.2.2.2.2.2.2.2.2.1 bt187.2.2.2.2.2.2.2.2.2.2.2.2.1 bt187.2.2.2.2.2.2.2.2.2.2.2.2.2.1 bt187.2.2.2.2.2.2.2.2.2.2.2.2.2.2.1 bt187.2.2.2.2.2.2.2.2.2.2.2.2.2.2.2.1 bt187.2.2.2.2.2.2.2.2.2.2.2.2.2.2.2.2) else (timesynclaw55_FaultOthers.j1 k1 l0 a1 a2 x12_1 false a3_0 a3_1 a3_2 a3_3 a3_4 a3_5 a3_6 a3_7 a3_8 a3_9 a3_10 a3_11 a3_12 a4_0 a4_1 bt187.1 bt187.2.1 bt187.2.2.1 bt187.2.2.2.1 bt187.2.2.2.2.1 bt187.2.2.2.2.2.1 bt187.2.2.2.2.2.2.1 bt187.2.2.2.2.2.2.2.1 bt187.2.2.2.2.2.2.2.2.1 bt187.2.2.2.2.2.2.2.2.2.1 bt187.2.2.2.2.2.2.2.2.2.2.1 bt187.2.2.2.2.2.2.2.2.2.2.2.1 bt187.2.2.2.2.2.2.2.2.2.2.2.2.1 bt187.2.2.2.2.2.2.2.2.2.2.2.2.2.1 bt187.2.2.2.2.2.2.2.2.2.2.2.2.2.2.1 bt187.2.2.2.2.2.2.2.2.2.2.2.2.2.2.2.1 bt187.2.2.2.2.2.2.2.2.2.2.2.2.2.2.2.2))) else ((fault_Apply.f k1 l0 a1 a2 a3_0 a3_1 a3_2 a3_3 a3_4 a3_5 a3_6 a3_7 a3_8 a3_9 a3_10 a3_11 a3_12 a4_0 a4_1).bind fun bt169 => (if (bt169.1 == false && ((bt169.2.1 == a3_0 && (bt169.2.2.1 == a3_1 && (bt169.2.2.2.1 == a3_2 && (bt169.2.2.2.2.1 == a3_3 && (bt169.2.2.2.2.2.1 == a3_4 && (bt169.2.2.2.2.2.2.1 == a3_5 && (bt169.2.2.2.2.2.2.2.1 == a3_6 && (bt169.2.2.2.2.2.2.2.2.1 == a3_7 && (bt169.2.2.2.2.2.2.2.2.2.1 == a3_8 && (bt169.2.2.2.2.2.2.2.2.2.2.1 == a3_9 && (bt169.2.2.2.2.2.2.2.2.2.2.2.1 == a3_10 && (bt169.2.2.2.2.2.2.2.2.2.2.2.2.1 == a3_11 && (bt169.2.2.2.2.2.2.2.2.2.2.2.2.2.1 == a3_12))))))))))))) && ((bt169.2.2.2.2.2.2.2.2.2.2.2.2.2.2.1 == a4_0 && (bt169.2.2.2.2.2.2.2.2.2.2.2.2.2.2.2.1 == a4_1)) && (bt169.2.2.2.2.2.2.2.2.2.2.2.2.2.2.2.2 == 0)))) = true then ((timesynclaw55_awake.f).bind fun t186 => (some t186)) else (some false)))) = some true := H
          have A49 := Aside0.mk A490
          clear A490
          by_cases c50 : t168 = 0
          · rw [if_pos c50] at H
            have c50b0 : (t168 == 0) = true := beq_iff_eq.mpr c50
            have c50b1 : (t168 != 0) = false := bne_eq_false_iff_eq.mpr c50
            clear c50
            replace H := Option.bind_eq_some_iff.mp H
            obtain ⟨⟨t187, t188, t189, t190, t191, t192, t193, t194, t195, t196, t197, t198, t199, t200, t201, t202, t203⟩, A510, H⟩ := H
            replace H : (if (x12_1.length : Int) = 0 then (timesynclaw55_FaultOthers.j1 k1 l0 a1 a2 x12_1 (!(t187 == false) || ((!(t188 == a3_0) || (!(t189 == a3_1) || (!(t190 == a3_2) || (!(t191 == a3_3) || (!(t192 == a3_4) || (!(t193 == a3_5) || (!(t194 == a3_6) || (!(t195 == a3_7) || (!(t196 == a3_8) || (!(t197 == a3_9) || (!(t198 == a3_10) || (!(t199 == a3_11) || (!(t200 == a3_12)))))))))))))) || ((!(t201 == a4_0) || (!(t202 == a4_1))) || (!(t203 == 0))))) a3_0 a3_1 a3_2 a3_3 a3_4 a3_5 a3_6 a3_7 a3_8 a3_9 a3_10 a3_11 a3_12 a4_0 a4_1 t187 t188 t189 t190 t191 t192 t193 t194 t195 t196 t197 t198 t199 t200 t201 t202 t203) else (timesynclaw55_FaultOthers.j1 k1 l0 a1 a2 x12_1 false a3_0 a3_1 a3_2 a3_3 a3_4 a3_5 a3_6 a3_7 a3_8 a3_9 a3_10 a3_11 a3_12 a4_0 a4_1 t187 t188 t189 t190 t191 t192 t193 t194 t195 t196 t197 t198 t199 t200 t201 t202 t203)) = some true := H
            have A51 := Aside0.mk A510
            clear A510
            have HC52 := Aside0.mk H
            clear H
            go_upto_region 14 with (first | ((with_reducible refine gate_callee (f := 13) rfl ?_); refine goesL_ (some 50) rfl rfl Try.func13 (by kernel_rfl) rfl #[.slice A0 l0.length c0] rfl (by (try simp only [List.map_toArray, List.map_cons, List.map_nil]); first | done | rfl | (simp only [List.length_drop, List.length_take]; rfl)) ?_; (with_reducible refine (fault_Check.calls k1 _ _ l0 t168 _ ?side1 ?side2 A49.out).mono ?_); (case side1 => repeat (first | exact (Kd.C_below HR0.out HB.out) | (with_reducible refine Kd.C_alloc ?_ _) | (with_reducible refine Kd.C_drewN ?_ _) | (with_reducible refine Kd.C_drew ?_))); (case side2 => exact HC0.out); rintro e w53 ⟨rfl, hb⟩; refine ⟨_, rfl, ?_⟩; have n0_ := Aside0.mk (Kd.R_below (by (with_reducible repeat (first | apply Kd.R_alloc | apply Kd.R_drewN | apply Kd.R_drew)); exact HO_12.out) hb); have n1_ := Aside0.mk (blk_below (g := gb158) (o := .cells #[.int .i64 a3_0, .int .i64 a3_1, .int .i64 a3_2, .int .i64 a3_3, .int .i64 a3_4, .int .i64 a3_5, .int .u32 a3_6, .int .u32 a3_7, .int .u32 a3_8, .int .u64 a3_9, .int .u64 a3_10, .int .u64 a3_11, .int .u64 a3_12] 33 (0, 0)) (by (with_reducible repeat (first | refine blk_drewN ?_ _ | refine blk_drew ?_ | refine blk_alloc ?_ _)); exact BK158.out) hb); have n2_ := Aside0.mk (blk_below (g := gb159) (o := .cells #[.int .i64 a4_0, .int .i64 a4_1] 35 (0, 0)) (by (with_reducible repeat (first | refine blk_drewN ?_ _ | refine blk_drew ?_ | refine blk_alloc ?_ _)); exact BK159.out) hb); have n3_ := Aside0.mk (blk_below (g := gb162) (o := .cells #[.bool false, .int .i64 a3_0, .int .i64 a3_1, .int .i64 a3_2, .int .i64 a3_3, .int .i64 a3_4, .int .i64 a3_5, .int .u32 a3_6, .int .u32 a3_7, .int .u32 a3_8, .int .u64 a3_9, .int .u64 a3_10, .int .u64 a3_11, .int .u64 a3_12, .int .i64 a4_0, .int .i64 a4_1, .int .i64 0] 38 (0, 0)) (by (with_reducible repeat (first | refine blk_drewN ?_ _ | refine blk_drew ?_ | refine blk_alloc ?_ _)); exact BK162.out) hb); have n4_ := Aside0.mk (below_step (by repeat (first | (with_reducible first | exact HB.out | apply below_alloc | apply pw_below_drewN | apply below_drew1 | refine below_set ?_ GE158.out | refine below_set ?_ GE159.out | refine below_set ?_ GE162.out) | exact HB.out)) hb); clear HO_12; clear BK158; clear BK159; clear BK162; clear HB; have HO_12 := n0_; have BK158 := n1_; have BK159 := n2_; have BK162 := n3_; have HB := n4_; clear n0_ n1_ n2_ n3_ n4_; (try clear hb); (try clear hb2); (try clear hk); (try clear hi); have hnb54 := NB158_159.out; have hnc54 := NB159_158.out; have hnb55 := NB158_162.out; have hnc55 := NB162_158.out; have hcz56_0 : w53.cell? ⟨gb158, 0, none⟩ = some (.int .i64 a3_0) := (blk_cell BK158.out 0).trans rfl; have hcz56_1 : w53.cell? ⟨gb158, 1, none⟩ = some (.int .i64 a3_1) := (blk_cell BK158.out 1).trans rfl; have hcz56_2 : w53.cell? ⟨gb158, 2, none⟩ = some (.int .i64 a3_2) := (blk_cell BK158.out 2).trans rfl; have hcz56_3 : w53.cell? ⟨gb158, 3, none⟩ = some (.int .i64 a3_3) := (blk_cell BK158.out 3).trans rfl; have hcz56_4 : w53.cell? ⟨gb158, 4, none⟩ = some (.int .i64 a3_4) := (blk_cell BK158.out 4).trans rfl; have hcz56_5 : w53.cell? ⟨gb158, 5, none⟩ = some (.int .i64 a3_5) := (blk_cell BK158.out 5).trans rfl; have hcz56_6 : w53.cell? ⟨gb158, 6, none⟩ = some (.int .u32 a3_6) := (blk_cell BK158.out 6).trans rfl; have hcz56_7 : w53.cell? ⟨gb158, 7, none⟩ = some (.int .u32 a3_7) := (blk_cell BK158.out 7).trans rfl; have hcz56_8 : w53.cell? ⟨gb158, 8, none⟩ = some (.int .u32 a3_8) := (blk_cell BK158.out 8).trans rfl; have hcz56_9 : w53.cell? ⟨gb158, 9, none⟩ = some (.int .u64 a3_9) := (blk_cell BK158.out 9).trans rfl; have hcz56_10 : w53.cell? ⟨gb158, 10, none⟩ = some (.int .u64 a3_10) := (blk_cell BK158.out 10).trans rfl; have hcz56_11 : w53.cell? ⟨gb158, 11, none⟩ = some (.int .u64 a3_11) := (blk_cell BK158.out 11).trans rfl; have hcz56_12 : w53.cell? ⟨gb158, 12, none⟩ = some (.int .u64 a3_12) := (blk_cell BK158.out 12).trans rfl; have hfz56_0 := blk_frozen BK158.out 0; have hfz56_1 := blk_frozen BK158.out 1; have hfz56_2 := blk_frozen BK158.out 2; have hfz56_3 := blk_frozen BK158.out 3; have hfz56_4 := blk_frozen BK158.out 4; have hfz56_5 := blk_frozen BK158.out 5; have hfz56_6 := blk_frozen BK158.out 6; have hfz56_7 := blk_frozen BK158.out 7; have hfz56_8 := blk_frozen BK158.out 8; have hfz56_9 := blk_frozen BK158.out 9; have hfz56_10 := blk_frozen BK158.out 10; have hfz56_11 := blk_frozen BK158.out 11; have hfz56_12 := blk_frozen BK158.out 12; have hnb57 := NB159_162.out; have hnc57 := NB162_159.out; have hcz58_0 : w53.cell? ⟨gb159, 0, none⟩ = some (.int .i64 a4_0) := (blk_cell BK159.out 0).trans rfl; have hcz58_1 : w53.cell? ⟨gb159, 1, none⟩ = some (.int .i64 a4_1) := (blk_cell BK159.out 1).trans rfl; have hfz58_0 := blk_frozen BK159.out 0; have hfz58_1 := blk_frozen BK159.out 1) | ((with_reducible refine gate_callee (f := 20) rfl ?_); refine goesL_ (some 68) rfl rfl Try.func20 (by kernel_rfl) rfl #[.slice A0 l0.length c0, .int .i64 a1, .int .i64 a2, .agg #[.int .i64 a3_0, .int .i64 a3_1, .int .i64 a3_2, .int .i64 a3_3, .int .i64 a3_4, .int .i64 a3_5, .int .u32 a3_6, .int .u32 a3_7, .int .u32 a3_8, .int .u64 a3_9, .int .u64 a3_10, .int .u64 a3_11, .int .u64 a3_12], .agg #[.int .i64 a4_0, .int .i64 a4_1]] rfl (by (try simp only [List.map_toArray, List.map_cons, List.map_nil]); first | done | rfl | (simp only [List.length_drop, List.length_take]; rfl)) ?_; (with_reducible refine (fault_Apply.calls k1 _ _ l0 a1 a2 a3_0 a3_1 a3_2 a3_3 a3_4 a3_5 a3_6 a3_7 a3_8 a3_9 a3_10 a3_11 a3_12 a4_0 a4_1 t187 t188 t189 t190 t191 t192 t193 t194 t195 t196 t197 t198 t199 t200 t201 t202 t203 _ ?side1 ?side2 A51.out).mono ?_); (case side1 => repeat (first | exact (Kd.C_below HR0.out HB.out) | (with_reducible refine Kd.C_alloc ?_ _) | (with_reducible refine Kd.C_drewN ?_ _) | (with_reducible refine Kd.C_drew ?_))); (case side2 => exact HC0.out); rintro e w59 ⟨rfl, hb⟩; refine ⟨_, rfl, ?_⟩; have n0_ := Aside0.mk (Kd.R_below (by (with_reducible repeat (first | apply Kd.R_alloc | apply Kd.R_drewN | apply Kd.R_drew)); exact HO_12.out) hb); have n1_ := Aside0.mk (blk_below (g := gb158) (o := .cells #[.int .i64 a3_0, .int .i64 a3_1, .int .i64 a3_2, .int .i64 a3_3, .int .i64 a3_4, .int .i64 a3_5, .int .u32 a3_6, .int .u32 a3_7, .int .u32 a3_8, .int .u64 a3_9, .int .u64 a3_10, .int .u64 a3_11, .int .u64 a3_12] 33 (0, 0)) (by (with_reducible repeat (first | refine blk_drewN ?_ _ | refine blk_drew ?_ | refine blk_alloc ?_ _)); exact BK158.out) hb); have n2_ := Aside0.mk (blk_below (g := gb159) (o := .cells #[.int .i64 a4_0, .int .i64 a4_1] 35 (0, 0)) (by (with_reducible repeat (first | refine blk_drewN ?_ _ | refine blk_drew ?_ | refine blk_alloc ?_ _)); exact BK159.out) hb); have n3_ := Aside0.mk (blk_below (g := gb162) (o := .cells #[.bool false, .int .i64 a3_0, .int .i64 a3_1, .int .i64 a3_2, .int .i64 a3_3, .int .i64 a3_4, .int .i64 a3_5, .int .u32 a3_6, .int .u32 a3_7, .int .u32 a3_8, .int .u64 a3_9, .int .u64 a3_10, .int .u64 a3_11, .int .u64 a3_12, .int .i64 a4_0, .int .i64 a4_1, .int .i64 0] 38 (0, 0)) (by (with_reducible repeat (first | refine blk_drewN ?_ _ | refine blk_drew ?_ | refine blk_alloc ?_ _)); exact BK162.out) hb); have n4_ := Aside0.mk (below_step (by repeat (first | (with_reducible first | exact HB.out | apply below_alloc | apply pw_below_drewN | apply below_drew1 | refine below_set ?_ GE158.out | refine below_set ?_ GE159.out | refine below_set ?_ GE162.out) | exact HB.out)) hb); clear HO_12; clear BK158; clear BK159; clear BK162; clear HB; have HO_12 := n0_; have BK158 := n1_; have BK159 := n2_; have BK162 := n3_; have HB := n4_; clear n0_ n1_ n2_ n3_ n4_; (try clear hb); (try clear hb2); (try clear hk); (try clear hi)) | ((with_reducible refine gate_dst (N := 15) rfl ?_); (try (refine gate_guard (by rfl) ?_; dsimp only)); refine box_event ?hg (N := 15) ?hd (cs := #[.bool false, .int .i64 0, .int .i64 0, .int .i64 0, .int .i64 0, .int .i64 0, .int .i64 0, .int .u32 0, .int .u32 0, .int .u32 0, .int .u64 0, .int .u64 0, .int .u64 0, .int .u64 0, .int .i64 0, .int .i64 0, .int .i64 0]) (t := 38) ?hr ?_; (case hd => rfl); (case hg => rfl); (case hr => first | (go_simp; done) | (go_simp; rfl)); intro gb204 hg w60 hbox hb; have n0_ := Aside0.mk (Kd.R_below (by (with_reducible repeat (first | apply Kd.R_alloc | apply Kd.R_drewN | apply Kd.R_drew)); exact HO_12.out) hb); have n1_ := Aside0.mk (blk_below (g := gb158) (o := .cells #[.int .i64 a3_0, .int .i64 a3_1, .int .i64 a3_2, .int .i64 a3_3, .int .i64 a3_4, .int .i64 a3_5, .int .u32 a3_6, .int .u32 a3_7, .int .u32 a3_8, .int .u64 a3_9, .int .u64 a3_10, .int .u64 a3_11, .int .u64 a3_12] 33 (0, 0)) (by (with_reducible repeat (first | refine blk_drewN ?_ _ | refine blk_drew ?_ | refine blk_alloc ?_ _)); exact BK158.out) hb); have n2_ := Aside0.mk (blk_below (g := gb159) (o := .cells #[.int .i64 a4_0, .int .i64 a4_1] 35 (0, 0)) (by (with_reducible repeat (first | refine blk_drewN ?_ _ | refine blk_drew ?_ | refine blk_alloc ?_ _)); exact BK159.out) hb); have n3_ := Aside0.mk (blk_below (g := gb162) (o := .cells #[.bool false, .int .i64 a3_0, .int .i64 a3_1, .int .i64 a3_2, .int .i64 a3_3, .int .i64 a3_4, .int .i64 a3_5, .int .u32 a3_6, .int .u32 a3_7, .int .u32 a3_8, .int .u64 a3_9, .int .u64 a3_10, .int .u64 a3_11, .int .u64 a3_12, .int .i64 a4_0, .int .i64 a4_1, .int .i64 0] 38 (0, 0)) (by (with_reducible repeat (first | refine blk_drewN ?_ _ | refine blk_drew ?_ | refine blk_alloc ?_ _)); exact BK162.out) hb); have n4_ := Aside0.mk (below_step (by repeat (first | (with_reducible first | exact HB.out | apply below_alloc | apply pw_below_drewN | apply below_drew1 | refine below_set ?_ GE158.out | refine below_set ?_ GE159.out | refine below_set ?_ GE162.out) | exact HB.out)) hb); have n5_ := Aside0.mk (hbox); have n6_ := Aside0.mk ((by rw [hg]; exact (below_size (by repeat (first | (with_reducible first | exact HB.out | apply below_alloc | apply pw_below_drewN | apply below_drew1 | refine below_set ?_ GE158.out | refine below_set ?_ GE159.out | refine below_set ?_ GE162.out) | exact HB.out))) : w.heap.size ≤ gb204)); have n7_ := Aside0.mk ((by rw [hg]; exact (below_size (by repeat (first | (with_reducible first | exact HB.out | apply below_alloc | apply pw_below_drewN | apply below_drew1 | refine below_set ?_ GE158.out | refine below_set ?_ GE159.out | refine below_set ?_ GE162.out) | exact HB.out))) : w.heap.size ≤ gb204)); have n8_ := Aside0.mk ((by rw [hg]; exact Nat.ne_of_lt (blk_lt (g := gb158) (o := .cells #[.int .i64 a3_0, .int .i64 a3_1, .int .i64 a3_2, .int .i64 a3_3, .int .i64 a3_4, .int .i64 a3_5, .int .u32 a3_6, .int .u32 a3_7, .int .u32 a3_8, .int .u64 a3_9, .int .u64 a3_10, .int .u64 a3_11, .int .u64 a3_12] 33 (0, 0)) (by (with_reducible repeat (first | refine blk_drewN ?_ _ | refine blk_drew ?_ | refine blk_alloc ?_ _)); exact BK158.out)) : gb158 ≠ gb204)); have n9_ := Aside0.mk ((by rw [hg]; exact Nat.ne_of_gt (blk_lt (g := gb158) (o := .cells #[.int .i64 a3_0, .int .i64 a3_1, .int .i64 a3_2, .int .i64 a3_3, .int .i64 a3_4, .int .i64 a3_5, .int .u32 a3_6, .int .u32 a3_7, .int .u32 a3_8, .int .u64 a3_9, .int .u64 a3_10, .int .u64 a3_11, .int .u64 a3_12] 33 (0, 0)) (by (with_reducible repeat (first | refine blk_drewN ?_ _ | refine blk_drew ?_ | refine blk_alloc ?_ _)); exact BK158.out)) : gb204 ≠ gb158)); have n10_ := Aside0.mk ((by rw [hg]; exact Nat.ne_of_lt (blk_lt (g := gb159) (o := .cells #[.int .i64 a4_0, .int .i64 a4_1] 35 (0, 0)) (by (with_reducible repeat (first | refine blk_drewN ?_ _ | refine blk_drew ?_ | refine blk_alloc ?_ _)); exact BK159.out)) : gb159 ≠ gb204)); have n11_ := Aside0.mk ((by rw [hg]; exact Nat.ne_of_gt (blk_lt (g := gb159) (o := .cells #[.int .i64 a4_0, .int .i64 a4_1] 35 (0, 0)) (by (with_reducible repeat (first | refine blk_drewN ?_ _ | refine blk_drew ?_ | refine blk_alloc ?_ _)); exact BK159.out)) : gb204 ≠ gb159)); have n12_ := Aside0.mk ((by rw [hg]; exact Nat.ne_of_lt (blk_lt (g := gb162) (o := .cells #[.bool false, .int .i64 a3_0, .int .i64 a3_1, .int .i64 a3_2, .int .i64 a3_3, .int .i64 a3_4, .int .i64 a3_5, .int .u32 a3_6, .int .u32 a3_7, .int .u32 a3_8, .int .u64 a3_9, .int .u64 a3_10, .int .u64 a3_11, .int .u64 a3_12, .int .i64 a4_0, .int .i64 a4_1, .int .i64 0] 38 (0, 0)) (by (with_reducible repeat (first | refine blk_drewN ?_ _ | refine blk_drew ?_ | refine blk_alloc ?_ _)); exact BK162.out)) : gb162 ≠ gb204)); have n13_ := Aside0.mk ((by rw [hg]; exact Nat.ne_of_gt (blk_lt (g := gb162) (o := .cells #[.bool false, .int .i64 a3_0, .int .i64 a3_1, .int .i64 a3_2, .int .i64 a3_3, .int .i64 a3_4, .int .i64 a3_5, .int .u32 a3_6, .int .u32 a3_7, .int .u32 a3_8, .int .u64 a3_9, .int .u64 a3_10, .int .u64 a3_11, .int .u64 a3_12, .int .i64 a4_0, .int .i64 a4_1, .int .i64 0] 38 (0, 0)) (by (with_reducible repeat (first | refine blk_drewN ?_ _ | refine blk_drew ?_ | refine blk_alloc ?_ _)); exact BK162.out)) : gb204 ≠ gb162)); clear HO_12; clear BK158; clear BK159; clear BK162; clear HB; have HO_12 := n0_; have BK158 := n1_; have BK159 := n2_; have BK162 := n3_; have HB := n4_; have BK204 := n5_; have GW204 := n6_; have GE204 := n7_; have NB158_204 := n8_; have NB204_158 := n9_; have NB159_204 := n10_; have NB204_159 := n11_; have NB162_204 := n12_; have NB204_162 := n13_; clear n0_ n1_ n2_ n3_ n4_ n5_ n6_ n7_ n8_ n9_ n10_ n11_ n12_ n13_; clear hb hbox hg; have hnb61 := NB204_158.out; have hnc61 := NB158_204.out; have hnb62 := NB204_159.out; have hnc62 := NB159_204.out; have hnb63 := NB204_162.out; have hnc63 := NB162_204.out) | ((with_reducible refine gate_store (t := 38) (p := 15) (v := .tmp 68) rfl ?_); refine Ob.ev_store rfl rfl 38 (.tmp 15) (.tmp 68) rfl (g := gb204) (t := 38) (old := ?_) #[.bool t187, .int .i64 t188, .int .i64 t189, .int .i64 t190, .int .i64 t191, .int .i64 t192, .int .i64 t193, .int .u32 t194, .int .u32 t195, .int .u32 t196, .int .u64 t197, .int .u64 t198, .int .u64 t199, .int .u64 t200, .int .i64 t201, .int .i64 t202, .int .i64 t203] ?hx ?hy ?hb ?hi ?ho ?h1 ?_; (case hx => rfl); (case hy => first | rfl | (go_simp; done) | (go_simp; rfl)); (case hb => exact (by (with_reducible repeat (first | refine blk_drewN ?_ _ | refine blk_drew ?_ | refine blk_alloc ?_ _)); exact BK204.out)); (case hi => kernel_rfl); (case ho => rfl); (case h1 => simp [Value.oneCell']); intro w61 hbox hgr; have n0_ : Aside0 (w61.heap[gb158]? = some (.cells #[.int .i64 a3_0, .int .i64 a3_1, .int .i64 a3_2, .int .i64 a3_3, .int .i64 a3_4, .int .i64 a3_5, .int .u32 a3_6, .int .u32 a3_7, .int .u32 a3_8, .int .u64 a3_9, .int .u64 a3_10, .int .u64 a3_11, .int .u64 a3_12] 33 (0, 0))) := ⟨Ob.Grew.blkFar (t := 33) (cs := #[.int .i64 a3_0, .int .i64 a3_1, .int .i64 a3_2, .int .i64 a3_3, .int .i64 a3_4, .int .i64 a3_5, .int .u32 a3_6, .int .u32 a3_7, .int .u32 a3_8, .int .u64 a3_9, .int .u64 a3_10, .int .u64 a3_11, .int .u64 a3_12]) hgr (by (with_reducible repeat (first | refine blk_drewN ?_ _ | refine blk_drew ?_ | refine blk_alloc ?_ _)); exact BK158.out) NB158_204.out⟩; have n1_ : Aside0 (w61.heap[gb159]? = some (.cells #[.int .i64 a4_0, .int .i64 a4_1] 35 (0, 0))) := ⟨Ob.Grew.blkFar (t := 35) (cs := #[.int .i64 a4_0, .int .i64 a4_1]) hgr (by (with_reducible repeat (first | refine blk_drewN ?_ _ | refine blk_drew ?_ | refine blk_alloc ?_ _)); exact BK159.out) NB159_204.out⟩; have n2_ : Aside0 (w61.heap[gb162]? = some (.cells #[.bool false, .int .i64 a3_0, .int .i64 a3_1, .int .i64 a3_2, .int .i64 a3_3, .int .i64 a3_4, .int .i64 a3_5, .int .u32 a3_6, .int .u32 a3_7, .int .u32 a3_8, .int .u64 a3_9, .int .u64 a3_10, .int .u64 a3_11, .int .u64 a3_12, .int .i64 a4_0, .int .i64 a4_1, .int .i64 0] 38 (0, 0))) := ⟨Ob.Grew.blkFar (t := 38) (cs := #[.bool false, .int .i64 a3_0, .int .i64 a3_1, .int .i64 a3_2, .int .i64 a3_3, .int .i64 a3_4, .int .i64 a3_5, .int .u32 a3_6, .int .u32 a3_7, .int .u32 a3_8, .int .u64 a3_9, .int .u64 a3_10, .int .u64 a3_11, .int .u64 a3_12, .int .i64 a4_0, .int .i64 a4_1, .int .i64 0]) hgr (by (with_reducible repeat (first | refine blk_drewN ?_ _ | refine blk_drew ?_ | refine blk_alloc ?_ _)); exact BK162.out) NB162_204.out⟩; have n3_ : Aside0 (w61.heap[gb204]? = some (.cells #[.bool t187, .int .i64 t188, .int .i64 t189, .int .i64 t190, .int .i64 t191, .int .i64 t192, .int .i64 t193, .int .u32 t194, .int .u32 t195, .int .u32 t196, .int .u64 t197, .int .u64 t198, .int .u64 t199, .int .u64 t200, .int .i64 t201, .int .i64 t202, .int .i64 t203] 38 (0, 0))) := ⟨hbox⟩; have n4_ : Aside0 (Below w.heap.size w w61) := ⟨below_grew1 (by repeat (first | (with_reducible first | exact HB.out | apply below_alloc | apply pw_below_drewN | apply below_drew1) | exact HB.out)) hgr GE204.out⟩; have n5_ : Aside0 (Kd.R k46 46 w61 w.heap.size (fun _ => True) u12 x12_1) := ⟨Kd.R_mono (Kd.R_grown (Kd.R_types (by (with_reducible repeat (first | apply Kd.R_alloc | apply Kd.R_drewN | apply Kd.R_drew)); exact HO_12.out) (show _ from (by (with_reducible repeat (first | refine blk_drewN ?_ _ | refine blk_drew ?_ | refine blk_alloc ?_ _)); exact BK204.out)) (by decide)) hgr.out (fun k hk e => hk.2 (Option.some.inj e))) (fun _ _ => trivial)⟩; clear BK158; clear BK159; clear BK162; clear BK204; clear HB; clear HO_12; have BK158 := n0_; have BK159 := n1_; have BK162 := n2_; have BK204 := n3_; have HB := n4_; have HO_12 := n5_; clear n0_ n1_ n2_ n3_ n4_ n5_; clear hbox hgr))
            (try simp only [Act.put, List.setIfInBounds_toArray, List.set_cons_zero, List.set_cons_succ])
            go_cut [76] (fun v76 wc => ∃ (kq : Nat) (x76_51 : Bool), v76 = .bool x76_51 ∧ Aside0 (timesynclaw55_FaultOthers.j1 kq l0 a1 a2 x12_1 x76_51 a3_0 a3_1 a3_2 a3_3 a3_4 a3_5 a3_6 a3_7 a3_8 a3_9 a3_10 a3_11 a3_12 a4_0 a4_1 t187 t188 t189 t190 t191 t192 t193 t194 t195 t196 t197 t198 t199 t200 t201 t202 t203 = some true) ∧ Aside0 (kq ≤ k1) ∧ Aside0 (Kd.R k46 46 wc w.heap.size (fun _ => True) u12 x12_1) ∧ Aside0 (wc.heap[gb158]? = some (.cells #[.int .i64 a3_0, .int .i64 a3_1, .int .i64 a3_2, .int .i64 a3_3, .int .i64 a3_4, .int .i64 a3_5, .int .u32 a3_6, .int .u32 a3_7, .int .u32 a3_8, .int .u64 a3_9, .int .u64 a3_10, .int .u64 a3_11, .int .u64 a3_12] 33 (0, 0))) ∧ Aside0 (wc.heap[gb159]? = some (.cells #[.int .i64 a4_0, .int .i64 a4_1] 35 (0, 0))) ∧ Aside0 (wc.heap[gb162]? = some (.cells #[.bool false, .int .i64 a3_0, .int .i64 a3_1, .int .i64 a3_2, .int .i64 a3_3, .int .i64 a3_4, .int .i64 a3_5, .int .u32 a3_6, .int .u32 a3_7, .int .u32 a3_8, .int .u64 a3_9, .int .u64 a3_10, .int .u64 a3_11, .int .u64 a3_12, .int .i64 a4_0, .int .i64 a4_1, .int .i64 0] 38 (0, 0))) ∧ Aside0 (wc.heap[gb204]? = some (.cells #[.bool t187, .int .i64 t188, .int .i64 t189, .int .i64 t190, .int .i64 t191, .int .i64 t192, .int .i64 t193, .int .u32 t194, .int .u32 t195, .int .u32 t196, .int .u64 t197, .int .u64 t198, .int .u64 t199, .int .u64 t200, .int .i64 t201, .int .i64 t202, .int .i64 t203] 38 (0, 0))) ∧ Aside0 (Below w.heap.size w wc))
            case first =>
              have H := HC52.out
              clear HC52
              by_cases c65 : (x12_1.length : Int) = 0
              · rw [if_pos c65] at H
                have c65b0 : ((x12_1.length : Int) == 0) = true := beq_iff_eq.mpr c65
                have c65b1 : ((x12_1.length : Int) != 0) = false := bne_eq_false_iff_eq.mpr c65
                clear c65
                (first | rw [c65b0] | (simp only [i64_w, i32_w]; rw [c65b0]) | skip)
                have H' := Aside0.mk H
                clear H
                obtain ⟨Ao66, co66, eo66⟩ := Kd.R_slice HO_12.out
                subst eo66
                have hnb67 := NB204_158.out
                have hnc67 := NB158_204.out
                have hnb68 := NB204_159.out
                have hnc68 := NB159_204.out
                have hnb69 := NB204_162.out
                have hnc69 := NB162_204.out
                have hnb71 := NB162_158.out
                have hnc71 := NB158_162.out
                have hnb72 := NB162_159.out
                have hnc72 := NB159_162.out
                go_wp2_with (first | ((with_reducible refine gate_dst (N := 73) rfl ?_); (try (refine gate_guard (by rfl) ?_; dsimp only)); refine Ob.ev_load ?hg (N := 73) rfl 38 (.tmp 15) rfl (g := gb204) (t := 38) (cs := #[.bool t187, .int .i64 t188, .int .i64 t189, .int .i64 t190, .int .i64 t191, .int .i64 t192, .int .i64 t193, .int .u32 t194, .int .u32 t195, .int .u32 t196, .int .u64 t197, .int .u64 t198, .int .u64 t199, .int .u64 t200, .int .i64 t201, .int .i64 t202, .int .i64 t203]) _ rfl BK204.out hu38 rfl inf38 ?_; (case hg => rfl)) | ((with_reducible refine gate_dst (N := 74) rfl ?_); (try (refine gate_guard (by rfl) ?_; dsimp only)); refine Ob.ev_load ?hg (N := 74) rfl 38 (.tmp 11) rfl (g := gb162) (t := 38) (cs := #[.bool false, .int .i64 a3_0, .int .i64 a3_1, .int .i64 a3_2, .int .i64 a3_3, .int .i64 a3_4, .int .i64 a3_5, .int .u32 a3_6, .int .u32 a3_7, .int .u32 a3_8, .int .u64 a3_9, .int .u64 a3_10, .int .u64 a3_11, .int .u64 a3_12, .int .i64 a4_0, .int .i64 a4_1, .int .i64 0]) _ rfl BK162.out hu38 rfl inf38 ?_; (case hg => rfl)))
                go_meet
                case rel => exact ⟨_, ((!(t187 == false) || ((!(t188 == a3_0) || (!(t189 == a3_1) || (!(t190 == a3_2) || (!(t191 == a3_3) || (!(t192 == a3_4) || (!(t193 == a3_5) || (!(t194 == a3_6) || (!(t195 == a3_7) || (!(t196 == a3_8) || (!(t197 == a3_9) || (!(t198 == a3_10) || (!(t199 == a3_11) || (!(t200 == a3_12)))))))))))))) || ((!(t201 == a4_0) || (!(t202 == a4_1))) || (!(t203 == 0)))))), (by first | rfl | (simp; done) | (simp [*]; done)), H', ⟨by have := HK1.out; first | omega | exact Nat.le_refl _⟩, ⟨by (with_reducible repeat (first | apply Kd.R_alloc | apply Kd.R_drewN | apply Kd.R_drew)); exact HO_12.out⟩, ⟨by (with_reducible repeat (first | refine blk_drewN ?_ _ | refine blk_drew ?_ | refine blk_alloc ?_ _)); exact BK158.out⟩, ⟨by (with_reducible repeat (first | refine blk_drewN ?_ _ | refine blk_drew ?_ | refine blk_alloc ?_ _)); exact BK159.out⟩, ⟨by (with_reducible repeat (first | refine blk_drewN ?_ _ | refine blk_drew ?_ | refine blk_alloc ?_ _)); exact BK162.out⟩, ⟨by (with_reducible repeat (first | refine blk_drewN ?_ _ | refine blk_drew ?_ | refine blk_alloc ?_ _)); exact BK204.out⟩, ⟨by repeat (first | (with_reducible first | exact HB.out | apply below_alloc | apply pw_below_drewN | apply below_drew1) | exact HB.out)⟩⟩
              · rw [if_neg c65] at H
                have c65b0 : ((x12_1.length : Int) == 0) = false := beq_eq_false_iff_ne.mpr c65
                have c65b1 : ((x12_1.length : Int) != 0) = true := bne_iff_ne.mpr c65
                have c65b2 : ¬ (x12_1 = []) := fun h_ => c65 (by rw [h_]; rfl)
                (first | rw [c65b0] | (simp only [i64_w, i32_w]; rw [c65b0]) | skip)
                have H' := Aside0.mk H
                clear H
                obtain ⟨Ao74, co74, eo74⟩ := Kd.R_slice HO_12.out
                subst eo74
                go_wp2
                go_meet
                case rel => exact ⟨_, (false), (by first | rfl | (simp; done) | (simp [*]; done)), H', ⟨by have := HK1.out; first | omega | exact Nat.le_refl _⟩, ⟨by (with_reducible repeat (first | apply Kd.R_alloc | apply Kd.R_drewN | apply Kd.R_drew)); exact HO_12.out⟩, ⟨by (with_reducible repeat (first | refine blk_drewN ?_ _ | refine blk_drew ?_ | refine blk_alloc ?_ _)); exact BK158.out⟩, ⟨by (with_reducible repeat (first | refine blk_drewN ?_ _ | refine blk_drew ?_ | refine blk_alloc ?_ _)); exact BK159.out⟩, ⟨by (with_reducible repeat (first | refine blk_drewN ?_ _ | refine blk_drew ?_ | refine blk_alloc ?_ _)); exact BK162.out⟩, ⟨by (with_reducible repeat (first | refine blk_drewN ?_ _ | refine blk_drew ?_ | refine blk_alloc ?_ _)); exact BK204.out⟩, ⟨by repeat (first | (with_reducible first | exact HB.out | apply below_alloc | apply pw_below_drewN | apply below_drew1) | exact HB.out)⟩⟩
            case rest =>
              clear HC52
              try clear c1
              try clear p1
              try clear q1
              try clear hx1
              try clear c2
              try clear p2
              try clear c3
              try clear c4
              try clear c5
              try clear c6
              try clear p6
              try clear c7
              try clear c11
              try clear c12
              try clear c13
              try clear c14
              try clear p16
              try clear q16
              try clear hx16
              try clear c18
              try clear c19
              try clear c20
              try clear c21
              try clear c21b0
              try clear c22
              try clear c22b0
              try clear c23
              try clear c23b0
              try clear c24
              try clear c24b0
              try clear c24b1
              try clear c25
              try clear c25b0
              try clear c26
              try clear c26b0
              try clear c27
              try clear c29
              try clear c30
              try clear c31
              try clear c35
              try clear c36
              try clear c37
              try clear c40
              try clear c41
              try clear c42
              try clear c45
              try clear c46
              try clear c47
              try clear c50
              try clear c50b0
              try clear c50b1
              try clear c54
              try clear c55
              try clear c57
              try clear c61
              try clear c62
              try clear c63
              try clear p64
              try clear c65
              try clear c65b0
              try clear c65b1
              try clear c65b2
              try clear c67
              try clear c68
              try clear c69
              try clear c71
              try clear c72
              try clear hcz15_0
              try clear hcz15_1
              try clear hcz15_10
              try clear hcz15_11
              try clear hcz15_12
              try clear hcz15_2
              try clear hcz15_3
              try clear hcz15_4
              try clear hcz15_5
              try clear hcz15_6
              try clear hcz15_7
              try clear hcz15_8
              try clear hcz15_9
              try clear hcz16_0
              try clear hcz16_1
              try clear hcz20_0
              try clear hcz20_1
              try clear hcz20_10
              try clear hcz20_11
              try clear hcz20_12
              try clear hcz20_13
              try clear hcz20_14
              try clear hcz20_15
              try clear hcz20_16
              try clear hcz20_2
              try clear hcz20_3
              try clear hcz20_4
              try clear hcz20_5
              try clear hcz20_6
              try clear hcz20_7
              try clear hcz20_8
              try clear hcz20_9
              try clear hcz32_0
              try clear hcz32_1
              try clear hcz32_2
              try clear hcz32_3
              try clear hcz32_4
              try clear hcz38_0
              try clear hcz38_1
              try clear hcz38_2
              try clear hcz38_3
              try clear hcz38_4
              try clear hcz43_0
              try clear hcz43_1
              try clear hcz43_2
              try clear hcz43_3
              try clear hcz43_4
              try clear hcz48_0
              try clear hcz48_1
              try clear hcz48_2
              try clear hcz48_3
              try clear hcz48_4
              try clear hcz56_0
              try clear hcz56_1
              try clear hcz56_10
              try clear hcz56_11
              try clear hcz56_12
              try clear hcz56_2
              try clear hcz56_3
              try clear hcz56_4
              try clear hcz56_5
              try clear hcz56_6
              try clear hcz56_7
              try clear hcz56_8
              try clear hcz56_9
              try clear hcz58_0
              try clear hcz58_1
              try clear hcz64_0
              try clear hcz64_1
              try clear hcz64_10
              try clear hcz64_11
              try clear hcz64_12
              try clear hcz64_13
              try clear hcz64_14
              try clear hcz64_15
              try clear hcz64_16
              try clear hcz64_2
              try clear hcz64_3
              try clear hcz64_4
              try clear hcz64_5
              try clear hcz64_6
              try clear hcz64_7
              try clear hcz64_8
              try clear hcz64_9
              try clear hcz70_0
              try clear hcz70_1
              try clear hcz70_10
              try clear hcz70_11
              try clear hcz70_12
              try clear hcz70_13
              try clear hcz70_14
              try clear hcz70_15
              try clear hcz70_16
              try clear hcz70_2
              try clear hcz70_3
              try clear hcz70_4
              try clear hcz70_5
              try clear hcz70_6
              try clear hcz70_7
              try clear hcz70_8
              try clear hcz70_9
              try clear hcz73_0
              try clear hcz73_1
              try clear hcz73_10
              try clear hcz73_11
              try clear hcz73_12
              try clear hcz73_13
              try clear hcz73_14
              try clear hcz73_15
              try clear hcz73_16
              try clear hcz73_2
              try clear hcz73_3
              try clear hcz73_4
              try clear hcz73_5
              try clear hcz73_6
              try clear hcz73_7
              try clear hcz73_8
              try clear hcz73_9
              try clear hfz15_0
              try clear hfz15_1
              try clear hfz15_10
              try clear hfz15_11
              try clear hfz15_12
              try clear hfz15_2
              try clear hfz15_3
              try clear hfz15_4
              try clear hfz15_5
              try clear hfz15_6
              try clear hfz15_7
              try clear hfz15_8
              try clear hfz15_9
              try clear hfz16_0
              try clear hfz16_1
              try clear hfz20_0
              try clear hfz20_1
              try clear hfz20_10
              try clear hfz20_11
              try clear hfz20_12
              try clear hfz20_13
              try clear hfz20_14
              try clear hfz20_15
              try clear hfz20_16
              try clear hfz20_2
              try clear hfz20_3
              try clear hfz20_4
              try clear hfz20_5
              try clear hfz20_6
              try clear hfz20_7
              try clear hfz20_8
              try clear hfz20_9
              try clear hfz32_0
              try clear hfz32_1
              try clear hfz32_2
              try clear hfz32_3
              try clear hfz32_4
              try clear hfz38_0
              try clear hfz38_1
              try clear hfz38_2
              try clear hfz38_3
              try clear hfz38_4
              try clear hfz43_0
              try clear hfz43_1
              try clear hfz43_2
              try clear hfz43_3
              try clear hfz43_4
              try clear hfz48_0
              try clear hfz48_1
              try clear hfz48_2
              try clear hfz48_3
              try clear hfz48_4
              try clear hfz56_0
              try clear hfz56_1
              try clear hfz56_10
              try clear hfz56_11
              try clear hfz56_12
              try clear hfz56_2
              try clear hfz56_3
              try clear hfz56_4
              try clear hfz56_5
              try clear hfz56_6
              try clear hfz56_7
              try clear hfz56_8
              try clear hfz56_9
              try clear hfz58_0
              try clear hfz58_1
              try clear hfz64_0
              try clear hfz64_1
              try clear hfz64_10
              try clear hfz64_11
              try clear hfz64_12
              try clear hfz64_13
              try clear hfz64_14
              try clear hfz64_15
              try clear hfz64_16
              try clear hfz64_2
              try clear hfz64_3
              try clear hfz64_4
              try clear hfz64_5
              try clear hfz64_6
              try clear hfz64_7
              try clear hfz64_8
              try clear hfz64_9
              try clear hfz70_0
              try clear hfz70_1
              try clear hfz70_10
              try clear hfz70_11
              try clear hfz70_12
              try clear hfz70_13
              try clear hfz70_14
              try clear hfz70_15
              try clear hfz70_16
              try clear hfz70_2
              try clear hfz70_3
              try clear hfz70_4
              try clear hfz70_5
              try clear hfz70_6
              try clear hfz70_7
              try clear hfz70_8
              try clear hfz70_9
              try clear hfz73_0
              try clear hfz73_1
              try clear hfz73_10
              try clear hfz73_11
              try clear hfz73_12
              try clear hfz73_13
              try clear hfz73_14
              try clear hfz73_15
              try clear hfz73_16
              try clear hfz73_2
              try clear hfz73_3
              try clear hfz73_4
              try clear hfz73_5
              try clear hfz73_6
              try clear hfz73_7
              try clear hfz73_8
              try clear hfz73_9
              try clear hx163_0
              try clear hx163_1
              try clear hx163_2
              try clear hx163_3
              try clear hx163_4
              try clear p163
              try clear p2
              try clear q163
              obtain ⟨kq, x76_51, rfl, HA, HJ51, HO_12, BK158, BK159, BK162, BK204, HB⟩ := hcut
              cases kq with
              | zero => exact absurd HA.out (by simp [timesynclaw55_FaultOthers.j1])
              | succ kj51 =>
                have H := HA.out
                clear HA
                simp only [timesynclaw55_FaultOthers.j1] at H
                by_cases c75 : x76_51 = true
                · subst c75
                  have H1 : (some false) = some true := by rw [if_pos rfl] at H; exact H
                  clear H
                  have H := H1
                  clear H1
                  exact absurd H (by simp)
                · replace c75 := Bool.eq_false_iff.mpr c75
                  subst c75
                  have H1 : ((fault_Apply.f kj51 x12_1 a1 a2 a3_0 a3_1 a3_2 a3_3 a3_4 a3_5 a3_6 a3_7 a3_8 a3_9 a3_10 a3_11 a3_12 a4_0 a4_1).bind fun bt205 => (if (t187 == bt205.1 && ((t188 == bt205.2.1 && (t189 == bt205.2.2.1 && (t190 == bt205.2.2.2.1 && (t191 == bt205.2.2.2.2.1 && (t192 == bt205.2.2.2.2.2.1 && (t193 == bt205.2.2.2.2.2.2.1 && (t194 == bt205.2.2.2.2.2.2.2.1 && (t195 == bt205.2.2.2.2.2.2.2.2.1 && (t196 == bt205.2.2.2.2.2.2.2.2.2.1 && (t197 == bt205.2.2.2.2.2.2.2.2.2.2.1 && (t198 == bt205.2.2.2.2.2.2.2.2.2.2.2.1 && (t199 == bt205.2.2.2.2.2.2.2.2.2.2.2.2.1 && (t200 == bt205.2.2.2.2.2.2.2.2.2.2.2.2.2.1))))))))))))) && ((t201 == bt205.2.2.2.2.2.2.2.2.2.2.2.2.2.2.1 && (t202 == bt205.2.2.2.2.2.2.2.2.2.2.2.2.2.2.2.1)) && (t203 == bt205.2.2.2.2.2.2.2.2.2.2.2.2.2.2.2.2)))) = true then ((fault_Active.f kj51 l0 a1 a2).bind fun t222 => (if (t222.length : Int) = (x12_1.length : Int) then ((timesynclaw55_awake.f).bind fun t225 => (some t225)) else (some false))) else (some false))) = some true := by rw [if_neg (show ¬ (false = true) by decide)] at H; exact H
                  clear H
                  have H := H1
                  clear H1
                  replace H := Option.bind_eq_some_iff.mp H
                  obtain ⟨⟨t205, t206, t207, t208, t209, t210, t211, t212, t213, t214, t215, t216, t217, t218, t219, t220, t221⟩, A760, H⟩ := H
                  replace H : (if (t187 == t205 && ((t188 == t206 && (t189 == t207 && (t190 == t208 && (t191 == t209 && (t192 == t210 && (t193 == t211 && (t194 == t212 && (t195 == t213 && (t196 == t214 && (t197 == t215 && (t198 == t216 && (t199 == t217 && (t200 == t218))))))))))))) && ((t201 == t219 && (t202 == t220)) && (t203 == t221)))) = true then ((fault_Active.f kj51 l0 a1 a2).bind fun t222 => (if (t222.length : Int) = (x12_1.length : Int) then ((timesynclaw55_awake.f).bind fun t225 => (some t225)) else (some false))) else (some false)) = some true := H
                  have A76 := Aside0.mk A760
                  clear A760
                  by_cases c77 : (t187 == t205 && ((t188 == t206 && (t189 == t207 && (t190 == t208 && (t191 == t209 && (t192 == t210 && (t193 == t211 && (t194 == t212 && (t195 == t213 && (t196 == t214 && (t197 == t215 && (t198 == t216 && (t199 == t217 && (t200 == t218))))))))))))) && ((t201 == t219 && (t202 == t220)) && (t203 == t221)))) = true
                  · rw [if_pos c77] at H
                    have c77b0 : (t187 == t205 && ((t188 == t206 && (t189 == t207 && (t190 == t208 && (t191 == t209 && (t192 == t210 && (t193 == t211 && (t194 == t212 && (t195 == t213 && (t196 == t214 && (t197 == t215 && (t198 == t216 && (t199 == t217 && (t200 == t218))))))))))))) && ((t201 == t219 && (t202 == t220)) && (t203 == t221)))) = true := c77
                    (try (have c77b1 : decide (t187 = t205 && ((t188 == t206 && (t189 == t207 && (t190 == t208 && (t191 == t209 && (t192 == t210 && (t193 == t211 && (t194 == t212 && (t195 == t213 && (t196 == t214 && (t197 == t215 && (t198 == t216 && (t199 == t217 && (t200 == t218))))))))))))) && ((t201 == t219 && (t202 == t220)) && (t203 == t221)))) = true := by simpa using c77))
                    (try (have c77b2 : (t187 == t205 && ((t188 == t206 && (t189 == t207 && (t190 == t208 && (t191 == t209 && (t192 == t210 && (t193 == t211 && (t194 == t212 && (t195 == t213 && (t196 == t214 && (t197 == t215 && (t198 == t216 && (t199 == t217 && (t200 == t218))))))))))))) && ((t201 == t219 && (t202 == t220)) && (t203 == t221)))) = true := by simpa using c77))
                    clear c77
                    replace H := Option.bind_eq_some_iff.mp H
                    obtain ⟨t222, A780, H⟩ := H
                    replace H : (if (t222.length : Int) = (x12_1.length : Int) then ((timesynclaw55_awake.f).bind fun t225 => (some t225)) else (some false)) = some true := H
                    have A78 := Aside0.mk A780
                    clear A780
                    by_cases c79 : (t222.length : Int) = (x12_1.length : Int)
                    · rw [if_pos c79] at H
                      have c79b0 : ((t222.length : Int) == (x12_1.length : Int)) = true := beq_iff_eq.mpr c79
                      have c79b1 : ((t222.length : Int) != (x12_1.length : Int)) = false := bne_eq_false_iff_eq.mpr c79
                      have c79b2 : (t222.length == x12_1.length) = true := by first | simpa using c79 | (simp at c79 ⊢; omega)
                      clear c79
                      replace H := Option.bind_eq_some_iff.mp H
                      obtain ⟨t225, A800, H⟩ := H
                      replace H : (some t225) = some true := H
                      have A80 := Aside0.mk A800
                      clear A800
                      have hE := Option.some.inj H
                      subst hE
                      try go_wp2
                      have n0_ := Aside0.mk (Kd.R_drew HO_12.out)
                      have n1_ := Aside0.mk (blk_drew BK158.out)
                      have n2_ := Aside0.mk (blk_drew BK159.out)
                      have n3_ := Aside0.mk (blk_drew BK162.out)
                      have n4_ := Aside0.mk (blk_drew BK204.out)
                      have n5_ := Aside0.mk (below_drew1 HB.out)
                      clear HO_12
                      clear BK158
                      clear BK159
                      clear BK162
                      clear BK204
                      clear HB
                      have HO_12 := n0_
                      have BK158 := n1_
                      have BK159 := n2_
                      have BK162 := n3_
                      have BK204 := n4_
                      have HB := n5_
                      clear n0_ n1_ n2_ n3_ n4_ n5_
                      obtain ⟨Ao82, co82, eo82⟩ := Kd.R_slice HO_12.out
                      (first | subst eo82 | (injection eo82 with f1_ f2_ f3_; have f4_ := f1_.symm; have f5_ := f3_.symm; clear f1_ f2_ f3_; subst f4_; subst f5_))
                      refine start_ (n := 22) (S := fun w' => w'.heap[gb204]? = some (.cells #[.bool t187, .int .i64 t188, .int .i64 t189, .int .i64 t190, .int .i64 t191, .int .i64 t192, .int .i64 t193, .int .u32 t194, .int .u32 t195, .int .u32 t196, .int .u64 t197, .int .u64 t198, .int .u64 t199, .int .u64 t200, .int .i64 t201, .int .i64 t202, .int .i64 t203] 38 (0, 0)) ∧ w'.heap[gb158]? = some (.cells #[.int .i64 a3_0, .int .i64 a3_1, .int .i64 a3_2, .int .i64 a3_3, .int .i64 a3_4, .int .i64 a3_5, .int .u32 a3_6, .int .u32 a3_7, .int .u32 a3_8, .int .u64 a3_9, .int .u64 a3_10, .int .u64 a3_11, .int .u64 a3_12] 33 (0, 0)) ∧ w'.heap[gb159]? = some (.cells #[.int .i64 a4_0, .int .i64 a4_1] 35 (0, 0))) (ds := []) #[false, false, false, false, false, false, false, false, false, false, false, false, false, false, false, false, false, false, false, false, false, false] (by kernel_rfl) rfl rfl ⟨BK204.out, BK158.out, BK159.out⟩ (fun hHeld => ?_); refine with_tabW timesynclaw55_FaultOthers.tab16 timesynclaw55_FaultOthers.bits16 (fun HT_ HW_ => ?_)
                      generalize wc.drew = w81 at HO_12 BK158 BK159 BK162 BK204 HB hHeld ⊢
                      refine pure_ (i := 1) (N := some 78) (v := ?_) (a' := ?_) #[false, true, false, false, false, false, false, false, false, false, false, false, false, false, false, false, false, false, false, false, false, false] rfl rfl (any_of HT_.out (by kernel_rfl)) (fun _ _ _ h => h) (Or.inl ⟨by rfl, ?_⟩) ?_ ?_
                      rotate_left
                      · intro w'
                        go_simp
                        with_reducible rfl
                      rotate_left
                      · simp only [Act.put, List.setIfInBounds_toArray, List.set_cons_zero, List.set_cons_succ, i64_w, i32_w]
                        rfl
                      refine pure_ (i := 2) (N := some 79) (v := ?_) (a' := ?_) #[false, true, true, false, false, false, false, false, false, false, false, false, false, false, false, false, false, false, false, false, false, false] rfl rfl (any_of HT_.out (by kernel_rfl)) (fun _ _ _ h => h) (Or.inl ⟨by rfl, ?_⟩) ?_ ?_
                      rotate_left
                      · intro w'
                        go_simp
                        with_reducible rfl
                      rotate_left
                      · simp only [Act.put, List.setIfInBounds_toArray, List.set_cons_zero, List.set_cons_succ, i64_w, i32_w]
                        rfl
                      refine pure_ (i := 3) (N := some 80) (v := ?_) (a' := ?_) #[false, true, true, true, false, false, false, false, false, false, false, false, false, false, false, false, false, false, false, false, false, false] rfl rfl (any_of HT_.out (by kernel_rfl)) (fun _ _ _ h => h) (Or.inl ⟨by rfl, ?_⟩) ?_ ?_
                      rotate_left
                      · intro w'
                        go_simp
                        with_reducible rfl
                      rotate_left
                      · simp only [Act.put, List.setIfInBounds_toArray, List.set_cons_zero, List.set_cons_succ, i64_w, i32_w]
                        rfl
                      refine take_ (i := 0) (N := some 77) (v := .agg #[.bool t187, .int .i64 t188, .int .i64 t189, .int .i64 t190, .int .i64 t191, .int .i64 t192, .int .i64 t193, .int .u32 t194, .int .u32 t195, .int .u32 t196, .int .u64 t197, .int .u64 t198, .int .u64 t199, .int .u64 t200, .int .i64 t201, .int .i64 t202, .int .i64 t203]) (a' := ?_) #[true, true, true, true, false, false, false, false, false, false, false, false, false, false, false, false, false, false, false, false, false, false] rfl rfl (take_ofW HT_.out HW_.out (by kernel_rfl)) (fun _ _ _ h => h) (Or.inl ⟨by rfl, ?_⟩) hHeld ?_ ?_
                      · rintro w' ⟨s204, s158, s159⟩
                        exact ld_row 38 (.tmp 15) (by rfl) _ (by rfl) s204 hu38 rfl inf38
                      rotate_left
                      · simp only [Act.put, List.setIfInBounds_toArray, List.set_cons_zero, List.set_cons_succ, i64_w, i32_w]
                        rfl
                      refine take_ (i := 4) (N := some 81) (v := .agg #[.int .i64 a3_0, .int .i64 a3_1, .int .i64 a3_2, .int .i64 a3_3, .int .i64 a3_4, .int .i64 a3_5, .int .u32 a3_6, .int .u32 a3_7, .int .u32 a3_8, .int .u64 a3_9, .int .u64 a3_10, .int .u64 a3_11, .int .u64 a3_12]) (a' := ?_) #[true, true, true, true, true, false, false, false, false, false, false, false, false, false, false, false, false, false, false, false, false, false] rfl rfl (take_ofW HT_.out HW_.out (by kernel_rfl)) (fun _ _ _ h => h) (Or.inl ⟨by rfl, ?_⟩) hHeld ?_ ?_
                      · rintro w' ⟨s204, s158, s159⟩
                        exact ld_row 33 (.tmp 8) (by rfl) _ (by rfl) s158 hu33 rfl inf33
                      rotate_left
                      · simp only [Act.put, List.setIfInBounds_toArray, List.set_cons_zero, List.set_cons_succ, i64_w, i32_w]
                        rfl
                      refine take_ (i := 5) (N := some 82) (v := .agg #[.int .i64 a4_0, .int .i64 a4_1]) (a' := ?_) #[true, true, true, true, true, true, false, false, false, false, false, false, false, false, false, false, false, false, false, false, false, false] rfl rfl (take_ofW HT_.out HW_.out (by kernel_rfl)) (fun _ _ _ h => h) (Or.inl ⟨by rfl, ?_⟩) hHeld ?_ ?_
                      · rintro w' ⟨s204, s158, s159⟩
                        exact ld_row 35 (.tmp 9) (by rfl) _ (by rfl) s159 hu35 rfl inf35
                      rotate_left
                      · simp only [Act.put, List.setIfInBounds_toArray, List.set_cons_zero, List.set_cons_succ, i64_w, i32_w]
                        rfl
                      refine one_ (i := 6) (N := some 83) #[true, true, true, true, true, true, true, false, false, false, false, false, false, false, false, false, false, false, false, false, false, false] rfl rfl (one_of HT_.out (by kernel_rfl)) (by decide) (fun K hK => ?_)
                      refine goes_ Try.func20 (by kernel_rfl) rfl #[.slice Ao82 x12_1.length co82, .int .i64 a1, .int .i64 a2, .agg #[.int .i64 a3_0, .int .i64 a3_1, .int .i64 a3_2, .int .i64 a3_3, .int .i64 a3_4, .int .i64 a3_5, .int .u32 a3_6, .int .u32 a3_7, .int .u32 a3_8, .int .u64 a3_9, .int .u64 a3_10, .int .u64 a3_11, .int .u64 a3_12], .agg #[.int .i64 a4_0, .int .i64 a4_1]] (by rfl) rfl rfl (by (try simp only [List.map_toArray, List.map_cons, List.map_nil]); first | done | rfl | (simp only [List.length_drop, List.length_take]; rfl)) ?_
                      with_reducible refine (fault_Apply.calls kj51 _ _ x12_1 a1 a2 a3_0 a3_1 a3_2 a3_3 a3_4 a3_5 a3_6 a3_7 a3_8 a3_9 a3_10 a3_11 a3_12 a4_0 a4_1 t205 t206 t207 t208 t209 t210 t211 t212 t213 t214 t215 t216 t217 t218 t219 t220 t221 _ ?side1 ?side2 A76.out).mono ?_
                      (case side1 => repeat (first | exact (Kd.R_reads' HO_12.out).2.2 | (with_reducible refine Kd.C_alloc ?_ _) | (with_reducible refine Kd.C_drewN ?_ _) | (with_reducible refine Kd.C_drew ?_)))
                      (case side2 => exact (Kd.R_reads' HO_12.out).2.1)
                      rintro e w83 ⟨rfl, hb⟩
                      refine ⟨_, rfl, ?_⟩
                      have n0_ := Aside0.mk (Kd.R_below (by (with_reducible repeat (first | apply Kd.R_alloc | apply Kd.R_drewN | apply Kd.R_drew)); exact HO_12.out) hb)
                      have n1_ := Aside0.mk (blk_below (g := gb158) (o := .cells #[.int .i64 a3_0, .int .i64 a3_1, .int .i64 a3_2, .int .i64 a3_3, .int .i64 a3_4, .int .i64 a3_5, .int .u32 a3_6, .int .u32 a3_7, .int .u32 a3_8, .int .u64 a3_9, .int .u64 a3_10, .int .u64 a3_11, .int .u64 a3_12] 33 (0, 0)) (by (with_reducible repeat (first | refine blk_drewN ?_ _ | refine blk_drew ?_ | refine blk_alloc ?_ _)); exact BK158.out) hb)
                      have n2_ := Aside0.mk (blk_below (g := gb159) (o := .cells #[.int .i64 a4_0, .int .i64 a4_1] 35 (0, 0)) (by (with_reducible repeat (first | refine blk_drewN ?_ _ | refine blk_drew ?_ | refine blk_alloc ?_ _)); exact BK159.out) hb)
                      have n3_ := Aside0.mk (blk_below (g := gb162) (o := .cells #[.bool false, .int .i64 a3_0, .int .i64 a3_1, .int .i64 a3_2, .int .i64 a3_3, .int .i64 a3_4, .int .i64 a3_5, .int .u32 a3_6, .int .u32 a3_7, .int .u32 a3_8, .int .u64 a3_9, .int .u64 a3_10, .int .u64 a3_11, .int .u64 a3_12, .int .i64 a4_0, .int .i64 a4_1, .int .i64 0] 38 (0, 0)) (by (with_reducible repeat (first | refine blk_drewN ?_ _ | refine blk_drew ?_ | refine blk_alloc ?_ _)); exact BK162.out) hb)
                      have n4_ := Aside0.mk (blk_below (g := gb204) (o := .cells #[.bool t187, .int .i64 t188, .int .i64 t189, .int .i64 t190, .int .i64 t191, .int .i64 t192, .int .i64 t193, .int .u32 t194, .int .u32 t195, .int .u32 t196, .int .u64 t197, .int .u64 t198, .int .u64 t199, .int .u64 t200, .int .i64 t201, .int .i64 t202, .int .i64 t203] 38 (0, 0)) (by (with_reducible repeat (first | refine blk_drewN ?_ _ | refine blk_drew ?_ | refine blk_alloc ?_ _)); exact BK204.out) hb)
                      have n5_ := Aside0.mk (below_step (by repeat (first | (with_reducible first | exact HB.out | apply below_alloc | apply pw_below_drewN | apply below_drew1 | refine below_set ?_ GE158.out | refine below_set ?_ GE159.out | refine below_set ?_ GE162.out | refine below_set ?_ GE204.out) | exact HB.out)) hb)
                      clear HO_12
                      clear BK158
                      clear BK159
                      clear BK162
                      clear BK204
                      clear HB
                      have HO_12 := n0_
                      have BK158 := n1_
                      have BK159 := n2_
                      have BK162 := n3_
                      have BK204 := n4_
                      have HB := n5_
                      clear n0_ n1_ n2_ n3_ n4_ n5_
                      (try clear hb)
                      (try clear hb2)
                      (try clear hk)
                      (try clear hi)
                      refine hK.out _ _ ⟨BK204.out, BK158.out, BK159.out⟩ (fun hHeld => ?_)
                      clear hK K
                      refine norm_ (a' := ?_) ?_ ?_
                      rotate_left
                      · show Act.put _ (some 83) _ = _
                        simp only [Act.put, List.setIfInBounds_toArray, List.set_cons_zero, List.set_cons_succ, i64_w, i32_w]
                        rfl
                      refine pure_ (i := 7) (N := some 84) (v := ?_) (a' := ?_) #[true, true, true, true, true, true, true, true, false, false, false, false, false, false, false, false, false, false, false, false, false, false] rfl rfl (any_of HT_.out (by kernel_rfl)) (fun _ _ _ h => h) (Or.inl ⟨by rfl, ?_⟩) ?_ ?_
                      rotate_left
                      · intro w'
                        go_simp
                        with_reducible rfl
                      rotate_left
                      · simp only [Act.put, List.setIfInBounds_toArray, List.set_cons_zero, List.set_cons_succ, i64_w, i32_w]
                        rfl
                      refine pure_ (i := 8) (N := some 85) (v := ?_) (a' := ?_) #[true, true, true, true, true, true, true, true, true, false, false, false, false, false, false, false, false, false, false, false, false, false] rfl rfl (any_of HT_.out (by kernel_rfl)) (fun _ _ _ h => h) (Or.inl ⟨by rfl, ?_⟩) ?_ ?_
                      rotate_left
                      · intro w'
                        go_simp
                        with_reducible rfl
                      rotate_left
                      · simp only [Act.put, List.setIfInBounds_toArray, List.set_cons_zero, List.set_cons_succ, i64_w, i32_w]
                        rfl
                      refine pure_ (i := 9) (N := some 86) (v := ?_) (a' := ?_) #[true, true, true, true, true, true, true, true, true, true, false, false, false, false, false, false, false, false, false, false, false, false] rfl rfl (any_of HT_.out (by kernel_rfl)) (fun _ _ _ h => h) (Or.inl ⟨by rfl, ?_⟩) ?_ ?_
                      rotate_left
                      · intro w'
                        go_simp
                        with_reducible rfl
                      rotate_left
                      · simp only [Act.put, List.setIfInBounds_toArray, List.set_cons_zero, List.set_cons_succ, i64_w, i32_w]
                        rfl
                      refine pure_ (i := 10) (N := some 87) (v := ?_) (a' := ?_) #[true, true, true, true, true, true, true, true, true, true, true, false, false, false, false, false, false, false, false, false, false, false] rfl rfl (any_of HT_.out (by kernel_rfl)) (fun _ _ _ h => h) (Or.inl ⟨by rfl, ?_⟩) ?_ ?_
                      rotate_left
                      · intro w'
                        go_simp
                        with_reducible rfl
                      rotate_left
                      · simp only [Act.put, List.setIfInBounds_toArray, List.set_cons_zero, List.set_cons_succ, i64_w, i32_w]
                        rfl
                      refine pure_ (i := 11) (N := some 88) (v := ?_) (a' := ?_) #[true, true, true, true, true, true, true, true, true, true, true, true, false, false, false, false, false, false, false, false, false, false] rfl rfl (any_of HT_.out (by kernel_rfl)) (fun _ _ _ h => h) (Or.inl ⟨by rfl, ?_⟩) ?_ ?_
                      rotate_left
                      · intro w'
                        go_simp
                        with_reducible rfl
                      rotate_left
                      · simp only [Act.put, List.setIfInBounds_toArray, List.set_cons_zero, List.set_cons_succ, i64_w, i32_w]
                        rfl
                      refine pure_ (i := 14) (N := some 91) (v := ?_) (a' := ?_) #[true, true, true, true, true, true, true, true, true, true, true, true, false, false, true, false, false, false, false, false, false, false] rfl rfl (any_of HT_.out (by kernel_rfl)) (fun _ _ _ h => h) (Or.inl ⟨by rfl, ?_⟩) ?_ ?_
                      rotate_left
                      · intro w'
                        go_simp
                        with_reducible rfl
                      rotate_left
                      · simp only [Act.put, List.setIfInBounds_toArray, List.set_cons_zero, List.set_cons_succ, i64_w, i32_w]
                        rfl
                      refine pure_ (i := 15) (N := some 92) (v := ?_) (a' := ?_) #[true, true, true, true, true, true, true, true, true, true, true, true, false, false, true, true, false, false, false, false, false, false] rfl rfl (any_of HT_.out (by kernel_rfl)) (fun _ _ _ h => h) (Or.inl ⟨by rfl, ?_⟩) ?_ ?_
                      rotate_left
                      · intro w'
                        go_simp
                        with_reducible rfl
                      rotate_left
                      · simp only [Act.put, List.setIfInBounds_toArray, List.set_cons_zero, List.set_cons_succ, i64_w, i32_w]
                        rfl
                      refine one_ (i := 12) (N := some 89) #[true, true, true, true, true, true, true, true, true, true, true, true, true, false, true, true, false, false, false, false, false, false] rfl rfl (one_of HT_.out (by kernel_rfl)) (by decide) (fun K hK => ?_)
                      refine goes_ Try.func18 (by kernel_rfl) rfl #[.slice A0 l0.length c0, .int .i64 a1, .int .i64 a2] (by rfl) rfl rfl (by (try simp only [List.map_toArray, List.map_cons, List.map_nil]); first | done | rfl | (simp only [List.length_drop, List.length_take]; rfl)) ?_
                      with_reducible refine (fault_Active.calls kj51 _ _ l0 a1 a2 t222 _ ?side1 ?side2 A78.out).mono ?_
                      (case side1 => repeat (first | exact (Kd.C_below HR0.out HB.out) | (with_reducible refine Kd.C_alloc ?_ _) | (with_reducible refine Kd.C_drewN ?_ _) | (with_reducible refine Kd.C_drew ?_)))
                      (case side2 => exact HC0.out)
                      rintro e w84 ⟨v223, rfl, ho0, hb⟩
                      refine ⟨_, rfl, ?_⟩
                      have n0_ := Aside0.mk (Kd.R_below (by (with_reducible repeat (first | apply Kd.R_alloc | apply Kd.R_drewN | apply Kd.R_drew)); exact HO_12.out) hb)
                      have n1_ := Aside0.mk (Kd.R_lower ho0 (below_size (by repeat (first | (with_reducible first | exact HB.out | apply below_alloc | apply pw_below_drewN | apply below_drew1 | refine below_set ?_ GE158.out | refine below_set ?_ GE159.out | refine below_set ?_ GE162.out | refine below_set ?_ GE204.out) | exact HB.out))))
                      have n2_ := Aside0.mk (blk_below (g := gb158) (o := .cells #[.int .i64 a3_0, .int .i64 a3_1, .int .i64 a3_2, .int .i64 a3_3, .int .i64 a3_4, .int .i64 a3_5, .int .u32 a3_6, .int .u32 a3_7, .int .u32 a3_8, .int .u64 a3_9, .int .u64 a3_10, .int .u64 a3_11, .int .u64 a3_12] 33 (0, 0)) (by (with_reducible repeat (first | refine blk_drewN ?_ _ | refine blk_drew ?_ | refine blk_alloc ?_ _)); exact BK158.out) hb)
                      have n3_ := Aside0.mk (blk_below (g := gb159) (o := .cells #[.int .i64 a4_0, .int .i64 a4_1] 35 (0, 0)) (by (with_reducible repeat (first | refine blk_drewN ?_ _ | refine blk_drew ?_ | refine blk_alloc ?_ _)); exact BK159.out) hb)
                      have n4_ := Aside0.mk (blk_below (g := gb162) (o := .cells #[.bool false, .int .i64 a3_0, .int .i64 a3_1, .int .i64 a3_2, .int .i64 a3_3, .int .i64 a3_4, .int .i64 a3_5, .int .u32 a3_6, .int .u32 a3_7, .int .u32 a3_8, .int .u64 a3_9, .int .u64 a3_10, .int .u64 a3_11, .int .u64 a3_12, .int .i64 a4_0, .int .i64 a4_1, .int .i64 0] 38 (0, 0)) (by (with_reducible repeat (first | refine blk_drewN ?_ _ | refine blk_drew ?_ | refine blk_alloc ?_ _)); exact BK162.out) hb)
                      have n5_ := Aside0.mk (blk_below (g := gb204) (o := .cells #[.bool t187, .int .i64 t188, .int .i64 t189, .int .i64 t190, .int .i64 t191, .int .i64 t192, .int .i64 t193, .int .u32 t194, .int .u32 t195, .int .u32 t196, .int .u64 t197, .int .u64 t198, .int .u64 t199, .int .u64 t200, .int .i64 t201, .int .i64 t202, .int .i64 t203] 38 (0, 0)) (by (with_reducible repeat (first | refine blk_drewN ?_ _ | refine blk_drew ?_ | refine blk_alloc ?_ _)); exact BK204.out) hb)
                      have n6_ := Aside0.mk (below_step (by repeat (first | (with_reducible first | exact HB.out | apply below_alloc | apply pw_below_drewN | apply below_drew1 | refine below_set ?_ GE158.out | refine below_set ?_ GE159.out | refine below_set ?_ GE162.out | refine below_set ?_ GE204.out) | exact HB.out)) hb)
                      clear HO_12
                      clear BK158
                      clear BK159
                      clear BK162
                      clear BK204
                      clear HB
                      have HO_12 := n0_
                      have HO224 := n1_
                      have BK158 := n2_
                      have BK159 := n3_
                      have BK162 := n4_
                      have BK204 := n5_
                      have HB := n6_
                      clear n0_ n1_ n2_ n3_ n4_ n5_ n6_
                      (try clear hb)
                      (try clear hb2)
                      (try clear hk)
                      (try clear hi)
                      (try clear ho0)
                      obtain ⟨Ao85, co85, eo85⟩ := Kd.R_slice HO224.out
                      (first | subst eo85 | (injection eo85 with f1_ f2_ f3_; have f4_ := f1_.symm; have f5_ := f3_.symm; clear f1_ f2_ f3_; subst f4_; subst f5_))
                      refine hK.out _ _ ⟨BK204.out, BK158.out, BK159.out⟩ (fun hHeld => ?_)
                      clear hK K
                      refine norm_ (a' := ?_) ?_ ?_
                      rotate_left
                      · show Act.put _ (some 89) _ = _
                        simp only [Act.put, List.setIfInBounds_toArray, List.set_cons_zero, List.set_cons_succ, i64_w, i32_w]
                        rfl
                      refine pure_ (i := 13) (N := some 90) (v := ?_) (a' := ?_) #[true, true, true, true, true, true, true, true, true, true, true, true, true, true, true, true, false, false, false, false, false, false] rfl rfl (any_of HT_.out (by kernel_rfl)) (fun _ _ _ h => h) (Or.inl ⟨by rfl, ?_⟩) ?_ ?_
                      rotate_left
                      · intro w'
                        go_simp
                        with_reducible rfl
                      rotate_left
                      · simp only [Act.put, List.setIfInBounds_toArray, List.set_cons_zero, List.set_cons_succ, i64_w, i32_w]
                        rfl
                      refine pure_ (i := 16) (N := some 93) (v := ?_) (a' := ?_) #[true, true, true, true, true, true, true, true, true, true, true, true, true, true, true, true, true, false, false, false, false, false] rfl rfl (any_of HT_.out (by kernel_rfl)) (fun _ _ _ h => h) (Or.inl ⟨by rfl, ?_⟩) ?_ ?_
                      rotate_left
                      · intro w'
                        go_simp
                        with_reducible rfl
                      rotate_left
                      · simp only [Act.put, List.setIfInBounds_toArray, List.set_cons_zero, List.set_cons_succ, i64_w, i32_w]
                        rfl
                      refine pure_ (i := 17) (N := some 94) (v := ?_) (a' := ?_) #[true, true, true, true, true, true, true, true, true, true, true, true, true, true, true, true, true, true, false, false, false, false] rfl rfl (any_of HT_.out (by kernel_rfl)) (fun _ _ _ h => h) (Or.inl ⟨by rfl, ?_⟩) ?_ ?_
                      rotate_left
                      · intro w'
                        go_simp
                        with_reducible rfl
                      rotate_left
                      · simp only [Act.put, List.setIfInBounds_toArray, List.set_cons_zero, List.set_cons_succ, i64_w, i32_w]
                        rfl
                      refine pure_ (i := 18) (N := some 95) (v := ?_) (a' := ?_) #[true, true, true, true, true, true, true, true, true, true, true, true, true, true, true, true, true, true, true, false, false, false] rfl rfl (any_of HT_.out (by kernel_rfl)) (fun _ _ _ h => h) (Or.inl ⟨by rfl, ?_⟩) ?_ ?_
                      rotate_left
                      · intro w'
                        go_simp
                        with_reducible rfl
                      rotate_left
                      · simp only [Act.put, List.setIfInBounds_toArray, List.set_cons_zero, List.set_cons_succ, i64_w, i32_w]
                        rfl
                      refine one_ (i := 19) (N := some 96) #[true, true, true, true, true, true, true, true, true, true, true, true, true, true, true, true, true, true, true, true, false, false] rfl rfl (one_of HT_.out (by kernel_rfl)) (by decide) (fun K hK => ?_)
                      refine goes_ Try.func12 (by kernel_rfl) rfl #[] (by rfl) rfl rfl (by (try simp only [List.map_toArray, List.map_cons, List.map_nil]); first | done | rfl | (simp only [List.length_drop, List.length_take]; rfl)) ?_
                      with_reducible refine (timesynclaw55_awake.calls  true _ A80.out).mono ?_
                      rintro e w86 ⟨rfl, hb⟩
                      refine ⟨_, rfl, ?_⟩
                      have n0_ := Aside0.mk (Kd.R_below (by (with_reducible repeat (first | apply Kd.R_alloc | apply Kd.R_drewN | apply Kd.R_drew)); exact HO_12.out) hb)
                      have n1_ := Aside0.mk (Kd.R_below (by (with_reducible repeat (first | apply Kd.R_alloc | apply Kd.R_drewN | apply Kd.R_drew)); exact HO224.out) hb)
                      have n2_ := Aside0.mk (blk_below (g := gb158) (o := .cells #[.int .i64 a3_0, .int .i64 a3_1, .int .i64 a3_2, .int .i64 a3_3, .int .i64 a3_4, .int .i64 a3_5, .int .u32 a3_6, .int .u32 a3_7, .int .u32 a3_8, .int .u64 a3_9, .int .u64 a3_10, .int .u64 a3_11, .int .u64 a3_12] 33 (0, 0)) (by (with_reducible repeat (first | refine blk_drewN ?_ _ | refine blk_drew ?_ | refine blk_alloc ?_ _)); exact BK158.out) hb)
                      have n3_ := Aside0.mk (blk_below (g := gb159) (o := .cells #[.int .i64 a4_0, .int .i64 a4_1] 35 (0, 0)) (by (with_reducible repeat (first | refine blk_drewN ?_ _ | refine blk_drew ?_ | refine blk_alloc ?_ _)); exact BK159.out) hb)
                      have n4_ := Aside0.mk (blk_below (g := gb162) (o := .cells #[.bool false, .int .i64 a3_0, .int .i64 a3_1, .int .i64 a3_2, .int .i64 a3_3, .int .i64 a3_4, .int .i64 a3_5, .int .u32 a3_6, .int .u32 a3_7, .int .u32 a3_8, .int .u64 a3_9, .int .u64 a3_10, .int .u64 a3_11, .int .u64 a3_12, .int .i64 a4_0, .int .i64 a4_1, .int .i64 0] 38 (0, 0)) (by (with_reducible repeat (first | refine blk_drewN ?_ _ | refine blk_drew ?_ | refine blk_alloc ?_ _)); exact BK162.out) hb)
                      have n5_ := Aside0.mk (blk_below (g := gb204) (o := .cells #[.bool t187, .int .i64 t188, .int .i64 t189, .int .i64 t190, .int .i64 t191, .int .i64 t192, .int .i64 t193, .int .u32 t194, .int .u32 t195, .int .u32 t196, .int .u64 t197, .int .u64 t198, .int .u64 t199, .int .u64 t200, .int .i64 t201, .int .i64 t202, .int .i64 t203] 38 (0, 0)) (by (with_reducible repeat (first | refine blk_drewN ?_ _ | refine blk_drew ?_ | refine blk_alloc ?_ _)); exact BK204.out) hb)
                      have n6_ := Aside0.mk (below_step (by repeat (first | (with_reducible first | exact HB.out | apply below_alloc | apply pw_below_drewN | apply below_drew1 | refine below_set ?_ GE158.out | refine below_set ?_ GE159.out | refine below_set ?_ GE162.out | refine below_set ?_ GE204.out) | exact HB.out)) hb)
                      clear HO_12
                      clear HO224
                      clear BK158
                      clear BK159
                      clear BK162
                      clear BK204
                      clear HB
                      have HO_12 := n0_
                      have HO224 := n1_
                      have BK158 := n2_
                      have BK159 := n3_
                      have BK162 := n4_
                      have BK204 := n5_
                      have HB := n6_
                      clear n0_ n1_ n2_ n3_ n4_ n5_ n6_
                      (try clear hb)
                      (try clear hb2)
                      (try clear hk)
                      (try clear hi)
                      refine hK.out _ _ ⟨BK204.out, BK158.out, BK159.out⟩ (fun hHeld => ?_)
                      clear hK K
                      refine norm_ (a' := ?_) ?_ ?_
                      rotate_left
                      · show Act.put _ (some 96) _ = _
                        simp only [Act.put, List.setIfInBounds_toArray, List.set_cons_zero, List.set_cons_succ, i64_w, i32_w]
                        rfl
                      refine pure_ (i := 20) (N := some 97) (v := ?_) (a' := ?_) #[true, true, true, true, true, true, true, true, true, true, true, true, true, true, true, true, true, true, true, true, true, false] rfl rfl (any_of HT_.out (by kernel_rfl)) (fun _ _ _ h => h) (Or.inl ⟨by rfl, ?_⟩) ?_ ?_
                      rotate_left
                      · intro w'
                        go_simp
                        with_reducible rfl
                      rotate_left
                      · simp only [Act.put, List.setIfInBounds_toArray, List.set_cons_zero, List.set_cons_succ, i64_w, i32_w]
                        rfl
                      refine pure_ (i := 21) (N := some 10) (v := ?_) (a' := ?_) #[true, true, true, true, true, true, true, true, true, true, true, true, true, true, true, true, true, true, true, true, true, true] rfl rfl (any_of HT_.out (by kernel_rfl)) (fun _ _ _ h => h) (Or.inl ⟨by rfl, ?_⟩) ?_ ?_
                      rotate_left
                      · intro w'
                        go_simp
                        with_reducible rfl
                      rotate_left
                      · simp only [Act.put, List.setIfInBounds_toArray, List.set_cons_zero, List.set_cons_succ, i64_w, i32_w]
                        rfl
                      refine done_ (done_of HT_.out (by kernel_rfl)) ?_
                      try go_wp2
                      go_ret
                      exact ⟨by first | rfl | (simp [errW_none, errW_some] <;> rfl) | (simp [*, errW_none, errW_some] <;> rfl), by repeat (first | (with_reducible first | exact HB.out | apply below_alloc | apply pw_below_drewN | apply below_drew1 | refine below_set ?_ GE158.out | refine below_set ?_ GE159.out | refine below_set ?_ GE162.out | refine below_set ?_ GE204.out) | exact HB.out)⟩
                    · rw [if_neg c79] at H
                      have c79b0 : ((t222.length : Int) == (x12_1.length : Int)) = false := beq_eq_false_iff_ne.mpr c79
                      have c79b1 : ((t222.length : Int) != (x12_1.length : Int)) = true := bne_iff_ne.mpr c79
                      have c79b2 : (t222.length == x12_1.length) = false := by first | simpa using c79 | (simp at c79 ⊢; omega)
                      exact absurd H (by simp)
                  · rw [if_neg c77] at H
                    have c77b0 : (t187 == t205 && ((t188 == t206 && (t189 == t207 && (t190 == t208 && (t191 == t209 && (t192 == t210 && (t193 == t211 && (t194 == t212 && (t195 == t213 && (t196 == t214 && (t197 == t215 && (t198 == t216 && (t199 == t217 && (t200 == t218))))))))))))) && ((t201 == t219 && (t202 == t220)) && (t203 == t221)))) = false := by simpa using c77
                    (try (have c77b1 : decide (t187 = t205 && ((t188 == t206 && (t189 == t207 && (t190 == t208 && (t191 == t209 && (t192 == t210 && (t193 == t211 && (t194 == t212 && (t195 == t213 && (t196 == t214 && (t197 == t215 && (t198 == t216 && (t199 == t217 && (t200 == t218))))))))))))) && ((t201 == t219 && (t202 == t220)) && (t203 == t221)))) = false := by simpa using c77))
                    (try (have c77b2 : (t187 == t205 && ((t188 == t206 && (t189 == t207 && (t190 == t208 && (t191 == t209 && (t192 == t210 && (t193 == t211 && (t194 == t212 && (t195 == t213 && (t196 == t214 && (t197 == t215 && (t198 == t216 && (t199 == t217 && (t200 == t218))))))))))))) && ((t201 == t219 && (t202 == t220)) && (t203 == t221)))) = false := by simpa using c77))
                    (try (have c77b3 : ¬ (t187 = t205 && ((t188 == t206 && (t189 == t207 && (t190 == t208 && (t191 == t209 && (t192 == t210 && (t193 == t211 && (t194 == t212 && (t195 == t213 && (t196 == t214 && (t197 == t215 && (t198 == t216 && (t199 == t217 && (t200 == t218))))))))))))) && ((t201 == t219 && (t202 == t220)) && (t203 == t221)))) := by simpa using c77))
                    clear c77
                    exact absurd H (by simp)
          · rw [if_neg c50] at H
            have c50b0 : (t168 == 0) = false := beq_eq_false_iff_ne.mpr c50
            have c50b1 : (t168 != 0) = true := bne_iff_ne.mpr c50
            replace H := Option.bind_eq_some_iff.mp H
            obtain ⟨⟨t169, t170, t171, t172, t173, t174, t175, t176, t177, t178, t179, t180, t181, t182, t183, t184, t185⟩, A950, H⟩ := H
            replace H : (if (t169 == false && ((t170 == a3_0 && (t171 == a3_1 && (t172 == a3_2 && (t173 == a3_3 && (t174 == a3_4 && (t175 == a3_5 && (t176 == a3_6 && (t177 == a3_7 && (t178 == a3_8 && (t179 == a3_9 && (t180 == a3_10 && (t181 == a3_11 && (t182 == a3_12))))))))))))) && ((t183 == a4_0 && (t184 == a4_1)) && (t185 == 0)))) = true then ((timesynclaw55_awake.f).bind fun t186 => (some t186)) else (some false)) = some true := H
            have A95 := Aside0.mk A950
            clear A950
            by_cases c96 : (t169 == false && ((t170 == a3_0 && (t171 == a3_1 && (t172 == a3_2 && (t173 == a3_3 && (t174 == a3_4 && (t175 == a3_5 && (t176 == a3_6 && (t177 == a3_7 && (t178 == a3_8 && (t179 == a3_9 && (t180 == a3_10 && (t181 == a3_11 && (t182 == a3_12))))))))))))) && ((t183 == a4_0 && (t184 == a4_1)) && (t185 == 0)))) = true
            · rw [if_pos c96] at H
              have c96b0 : (t169 == false && ((t170 == a3_0 && (t171 == a3_1 && (t172 == a3_2 && (t173 == a3_3 && (t174 == a3_4 && (t175 == a3_5 && (t176 == a3_6 && (t177 == a3_7 && (t178 == a3_8 && (t179 == a3_9 && (t180 == a3_10 && (t181 == a3_11 && (t182 == a3_12))))))))))))) && ((t183 == a4_0 && (t184 == a4_1)) && (t185 == 0)))) = true := c96
              have c96b9 : (!t169 && ((t170 == a3_0 && (t171 == a3_1 && (t172 == a3_2 && (t173 == a3_3 && (t174 == a3_4 && (t175 == a3_5 && (t176 == a3_6 && (t177 == a3_7 && (t178 == a3_8 && (t179 == a3_9 && (t180 == a3_10 && (t181 == a3_11 && (t182 == a3_12))))))))))))) && ((t183 == a4_0 && (t184 == a4_1)) && (t185 == 0)))) = true := by rw [← c96b0]; cases t169 <;> rfl
              (try (have c96b1 : decide (t169 = false && ((t170 == a3_0 && (t171 == a3_1 && (t172 == a3_2 && (t173 == a3_3 && (t174 == a3_4 && (t175 == a3_5 && (t176 == a3_6 && (t177 == a3_7 && (t178 == a3_8 && (t179 == a3_9 && (t180 == a3_10 && (t181 == a3_11 && (t182 == a3_12))))))))))))) && ((t183 == a4_0 && (t184 == a4_1)) && (t185 == 0)))) = true := by simpa using c96))
              (try (have c96b2 : (t169 == false && ((t170 == a3_0 && (t171 == a3_1 && (t172 == a3_2 && (t173 == a3_3 && (t174 == a3_4 && (t175 == a3_5 && (t176 == a3_6 && (t177 == a3_7 && (t178 == a3_8 && (t179 == a3_9 && (t180 == a3_10 && (t181 == a3_11 && (t182 == a3_12))))))))))))) && ((t183 == a4_0 && (t184 == a4_1)) && (t185 == 0)))) = true := by simpa using c96))
              clear c96
              replace H := Option.bind_eq_some_iff.mp H
              obtain ⟨t186, A970, H⟩ := H
              replace H : (some t186) = some true := H
              have A97 := Aside0.mk A970
              clear A970
              have hE := Option.some.inj H
              subst hE
              try go_wp2_with (first | ((with_reducible refine gate_callee (f := 13) rfl ?_); refine goesL_ (some 50) rfl rfl Try.func13 (by kernel_rfl) rfl #[.slice A0 l0.length c0] rfl (by (try simp only [List.map_toArray, List.map_cons, List.map_nil]); first | done | rfl | (simp only [List.length_drop, List.length_take]; rfl)) ?_; (with_reducible refine (fault_Check.calls k1 _ _ l0 t168 _ ?side1 ?side2 A49.out).mono ?_); (case side1 => repeat (first | exact (Kd.C_below HR0.out HB.out) | (with_reducible refine Kd.C_alloc ?_ _) | (with_reducible refine Kd.C_drewN ?_ _) | (with_reducible refine Kd.C_drew ?_))); (case side2 => exact HC0.out); rintro e w98 ⟨rfl, hb⟩; refine ⟨_, rfl, ?_⟩; have n0_ := Aside0.mk (Kd.R_below (by (with_reducible repeat (first | apply Kd.R_alloc | apply Kd.R_drewN | apply Kd.R_drew)); exact HO_12.out) hb); have n1_ := Aside0.mk (blk_below (g := gb158) (o := .cells #[.int .i64 a3_0, .int .i64 a3_1, .int .i64 a3_2, .int .i64 a3_3, .int .i64 a3_4, .int .i64 a3_5, .int .u32 a3_6, .int .u32 a3_7, .int .u32 a3_8, .int .u64 a3_9, .int .u64 a3_10, .int .u64 a3_11, .int .u64 a3_12] 33 (0, 0)) (by (with_reducible repeat (first | refine blk_drewN ?_ _ | refine blk_drew ?_ | refine blk_alloc ?_ _)); exact BK158.out) hb); have n2_ := Aside0.mk (blk_below (g := gb159) (o := .cells #[.int .i64 a4_0, .int .i64 a4_1] 35 (0, 0)) (by (with_reducible repeat (first | refine blk_drewN ?_ _ | refine blk_drew ?_ | refine blk_alloc ?_ _)); exact BK159.out) hb); have n3_ := Aside0.mk (blk_below (g := gb162) (o := .cells #[.bool false, .int .i64 a3_0, .int .i64 a3_1, .int .i64 a3_2, .int .i64 a3_3, .int .i64 a3_4, .int .i64 a3_5, .int .u32 a3_6, .int .u32 a3_7, .int .u32 a3_8, .int .u64 a3_9, .int .u64 a3_10, .int .u64 a3_11, .int .u64 a3_12, .int .i64 a4_0, .int .i64 a4_1, .int .i64 0] 38 (0, 0)) (by (with_reducible repeat (first | refine blk_drewN ?_ _ | refine blk_drew ?_ | refine blk_alloc ?_ _)); exact BK162.out) hb); have n4_ := Aside0.mk (below_step (by repeat (first | (with_reducible first | exact HB.out | apply below_alloc | apply pw_below_drewN | apply below_drew1 | refine below_set ?_ GE158.out | refine below_set ?_ GE159.out | refine below_set ?_ GE162.out) | exact HB.out)) hb); clear HO_12; clear BK158; clear BK159; clear BK162; clear HB; have HO_12 := n0_; have BK158 := n1_; have BK159 := n2_; have BK162 := n3_; have HB := n4_; clear n0_ n1_ n2_ n3_ n4_; (try clear hb); (try clear hb2); (try clear hk); (try clear hi)))
              have n0_ := Aside0.mk (Kd.R_drew HO_12.out)
              have n1_ := Aside0.mk (blk_drew BK158.out)
              have n2_ := Aside0.mk (blk_drew BK159.out)
              have n3_ := Aside0.mk (blk_drew BK162.out)
              have n4_ := Aside0.mk (below_drew1 HB.out)
              clear HO_12
              clear BK158
              clear BK159
              clear BK162
              clear HB
              have HO_12 := n0_
              have BK158 := n1_
              have BK159 := n2_
              have BK162 := n3_
              have HB := n4_
              clear n0_ n1_ n2_ n3_ n4_
              refine start_ (n := 12) (S := fun w' => w'.heap[gb158]? = some (.cells #[.int .i64 a3_0, .int .i64 a3_1, .int .i64 a3_2, .int .i64 a3_3, .int .i64 a3_4, .int .i64 a3_5, .int .u32 a3_6, .int .u32 a3_7, .int .u32 a3_8, .int .u64 a3_9, .int .u64 a3_10, .int .u64 a3_11, .int .u64 a3_12] 33 (0, 0)) ∧ w'.heap[gb159]? = some (.cells #[.int .i64 a4_0, .int .i64 a4_1] 35 (0, 0)) ∧ w'.heap[gb162]? = some (.cells #[.bool false, .int .i64 a3_0, .int .i64 a3_1, .int .i64 a3_2, .int .i64 a3_3, .int .i64 a3_4, .int .i64 a3_5, .int .u32 a3_6, .int .u32 a3_7, .int .u32 a3_8, .int .u64 a3_9, .int .u64 a3_10, .int .u64 a3_11, .int .u64 a3_12, .int .i64 a4_0, .int .i64 a4_1, .int .i64 0] 38 (0, 0))) (ds := []) #[false, false, false, false, false, false, false, false, false, false, false, false] (by kernel_rfl) rfl rfl ⟨BK158.out, BK159.out, BK162.out⟩ (fun hHeld => ?_); refine with_tabW timesynclaw55_FaultOthers.tab12 timesynclaw55_FaultOthers.bits12 (fun HT_ HW_ => ?_)
              generalize w98.drew = w99 at HO_12 BK158 BK159 BK162 HB hHeld ⊢
              refine pure_ (i := 0) (N := some 52) (v := ?_) (a' := ?_) #[true, false, false, false, false, false, false, false, false, false, false, false] rfl rfl (any_of HT_.out (by kernel_rfl)) (fun _ _ _ h => h) (Or.inl ⟨by rfl, ?_⟩) ?_ ?_
              rotate_left
              · intro w'
                go_simp
                with_reducible rfl
              rotate_left
              · simp only [Act.put, List.setIfInBounds_toArray, List.set_cons_zero, List.set_cons_succ, i64_w, i32_w]
                rfl
              refine pure_ (i := 1) (N := some 53) (v := ?_) (a' := ?_) #[true, true, false, false, false, false, false, false, false, false, false, false] rfl rfl (any_of HT_.out (by kernel_rfl)) (fun _ _ _ h => h) (Or.inl ⟨by rfl, ?_⟩) ?_ ?_
              rotate_left
              · intro w'
                go_simp
                with_reducible rfl
              rotate_left
              · simp only [Act.put, List.setIfInBounds_toArray, List.set_cons_zero, List.set_cons_succ, i64_w, i32_w]
                rfl
              refine pure_ (i := 2) (N := some 54) (v := ?_) (a' := ?_) #[true, true, true, false, false, false, false, false, false, false, false, false] rfl rfl (any_of HT_.out (by kernel_rfl)) (fun _ _ _ h => h) (Or.inl ⟨by rfl, ?_⟩) ?_ ?_
              rotate_left
              · intro w'
                go_simp
                with_reducible rfl
              rotate_left
              · simp only [Act.put, List.setIfInBounds_toArray, List.set_cons_zero, List.set_cons_succ, i64_w, i32_w]
                rfl
              refine take_ (i := 3) (N := some 55) (v := .agg #[.int .i64 a3_0, .int .i64 a3_1, .int .i64 a3_2, .int .i64 a3_3, .int .i64 a3_4, .int .i64 a3_5, .int .u32 a3_6, .int .u32 a3_7, .int .u32 a3_8, .int .u64 a3_9, .int .u64 a3_10, .int .u64 a3_11, .int .u64 a3_12]) (a' := ?_) #[true, true, true, true, false, false, false, false, false, false, false, false] rfl rfl (take_ofW HT_.out HW_.out (by kernel_rfl)) (fun _ _ _ h => h) (Or.inl ⟨by rfl, ?_⟩) hHeld ?_ ?_
              · rintro w' ⟨s158, s159, s162⟩
                exact ld_row 33 (.tmp 8) (by rfl) _ (by rfl) s158 hu33 rfl inf33
              rotate_left
              · simp only [Act.put, List.setIfInBounds_toArray, List.set_cons_zero, List.set_cons_succ, i64_w, i32_w]
                rfl
              refine take_ (i := 4) (N := some 56) (v := .agg #[.int .i64 a4_0, .int .i64 a4_1]) (a' := ?_) #[true, true, true, true, true, false, false, false, false, false, false, false] rfl rfl (take_ofW HT_.out HW_.out (by kernel_rfl)) (fun _ _ _ h => h) (Or.inl ⟨by rfl, ?_⟩) hHeld ?_ ?_
              · rintro w' ⟨s158, s159, s162⟩
                exact ld_row 35 (.tmp 9) (by rfl) _ (by rfl) s159 hu35 rfl inf35
              rotate_left
              · simp only [Act.put, List.setIfInBounds_toArray, List.set_cons_zero, List.set_cons_succ, i64_w, i32_w]
                rfl
              refine take_ (i := 6) (N := some 58) (v := .agg #[.bool false, .int .i64 a3_0, .int .i64 a3_1, .int .i64 a3_2, .int .i64 a3_3, .int .i64 a3_4, .int .i64 a3_5, .int .u32 a3_6, .int .u32 a3_7, .int .u32 a3_8, .int .u64 a3_9, .int .u64 a3_10, .int .u64 a3_11, .int .u64 a3_12, .int .i64 a4_0, .int .i64 a4_1, .int .i64 0]) (a' := ?_) #[true, true, true, true, true, false, true, false, false, false, false, false] rfl rfl (take_ofW HT_.out HW_.out (by kernel_rfl)) (fun _ _ _ h => h) (Or.inl ⟨by rfl, ?_⟩) hHeld ?_ ?_
              · rintro w' ⟨s158, s159, s162⟩
                exact ld_row 38 (.tmp 11) (by rfl) _ (by rfl) s162 hu38 rfl inf38
              rotate_left
              · simp only [Act.put, List.setIfInBounds_toArray, List.set_cons_zero, List.set_cons_succ, i64_w, i32_w]
                rfl
              refine one_ (i := 5) (N := some 57) #[true, true, true, true, true, true, true, false, false, false, false, false] rfl rfl (one_of HT_.out (by kernel_rfl)) (by decide) (fun K hK => ?_)
              refine goes_ Try.func20 (by kernel_rfl) rfl #[.slice A0 l0.length c0, .int .i64 a1, .int .i64 a2, .agg #[.int .i64 a3_0, .int .i64 a3_1, .int .i64 a3_2, .int .i64 a3_3, .int .i64 a3_4, .int .i64 a3_5, .int .u32 a3_6, .int .u32 a3_7, .int .u32 a3_8, .int .u64 a3_9, .int .u64 a3_10, .int .u64 a3_11, .int .u64 a3_12], .agg #[.int .i64 a4_0, .int .i64 a4_1]] (by rfl) rfl rfl (by (try simp only [List.map_toArray, List.map_cons, List.map_nil]); first | done | rfl | (simp only [List.length_drop, List.length_take]; rfl)) ?_
              with_reducible refine (fault_Apply.calls k1 _ _ l0 a1 a2 a3_0 a3_1 a3_2 a3_3 a3_4 a3_5 a3_6 a3_7 a3_8 a3_9 a3_10 a3_11 a3_12 a4_0 a4_1 t169 t170 t171 t172 t173 t174 t175 t176 t177 t178 t179 t180 t181 t182 t183 t184 t185 _ ?side1 ?side2 A95.out).mono ?_
              (case side1 => repeat (first | exact (Kd.C_below HR0.out HB.out) | (with_reducible refine Kd.C_alloc ?_ _) | (with_reducible refine Kd.C_drewN ?_ _) | (with_reducible refine Kd.C_drew ?_)))
              (case side2 => exact HC0.out)
              rintro e w100 ⟨rfl, hb⟩
              refine ⟨_, rfl, ?_⟩
              have n0_ := Aside0.mk (Kd.R_below (by (with_reducible repeat (first | apply Kd.R_alloc | apply Kd.R_drewN | apply Kd.R_drew)); exact HO_12.out) hb)
              have n1_ := Aside0.mk (blk_below (g := gb158) (o := .cells #[.int .i64 a3_0, .int .i64 a3_1, .int .i64 a3_2, .int .i64 a3_3, .int .i64 a3_4, .int .i64 a3_5, .int .u32 a3_6, .int .u32 a3_7, .int .u32 a3_8, .int .u64 a3_9, .int .u64 a3_10, .int .u64 a3_11, .int .u64 a3_12] 33 (0, 0)) (by (with_reducible repeat (first | refine blk_drewN ?_ _ | refine blk_drew ?_ | refine blk_alloc ?_ _)); exact BK158.out) hb)
              have n2_ := Aside0.mk (blk_below (g := gb159) (o := .cells #[.int .i64 a4_0, .int .i64 a4_1] 35 (0, 0)) (by (with_reducible repeat (first | refine blk_drewN ?_ _ | refine blk_drew ?_ | refine blk_alloc ?_ _)); exact BK159.out) hb)
              have n3_ := Aside0.mk (blk_below (g := gb162) (o := .cells #[.bool false, .int .i64 a3_0, .int .i64 a3_1, .int .i64 a3_2, .int .i64 a3_3, .int .i64 a3_4, .int .i64 a3_5, .int .u32 a3_6, .int .u32 a3_7, .int .u32 a3_8, .int .u64 a3_9, .int .u64 a3_10, .int .u64 a3_11, .int .u64 a3_12, .int .i64 a4_0, .int .i64 a4_1, .int .i64 0] 38 (0, 0)) (by (with_reducible repeat (first | refine blk_drewN ?_ _ | refine blk_drew ?_ | refine blk_alloc ?_ _)); exact BK162.out) hb)
              have n4_ := Aside0.mk (below_step (by repeat (first | (with_reducible first | exact HB.out | apply below_alloc | apply pw_below_drewN | apply below_drew1 | refine below_set ?_ GE158.out | refine below_set ?_ GE159.out | refine below_set ?_ GE162.out) | exact HB.out)) hb)
              clear HO_12
              clear BK158
              clear BK159
              clear BK162
              clear HB
              have HO_12 := n0_
              have BK158 := n1_
              have BK159 := n2_
              have BK162 := n3_
              have HB := n4_
              clear n0_ n1_ n2_ n3_ n4_
              (try clear hb)
              (try clear hb2)
              (try clear hk)
              (try clear hi)
              refine hK.out _ _ ⟨BK158.out, BK159.out, BK162.out⟩ (fun hHeld => ?_)
              clear hK K
              refine norm_ (a' := ?_) ?_ ?_
              rotate_left
              · show Act.put _ (some 57) _ = _
                simp only [Act.put, List.setIfInBounds_toArray, List.set_cons_zero, List.set_cons_succ, i64_w, i32_w]
                rfl
              refine pure_ (i := 7) (N := some 59) (v := ?_) (a' := ?_) #[true, true, true, true, true, true, true, true, false, false, false, false] rfl rfl (any_of HT_.out (by kernel_rfl)) (fun _ _ _ h => h) (Or.inl ⟨by rfl, ?_⟩) ?_ ?_
              rotate_left
              · intro w'
                go_simp
                with_reducible rfl
              rotate_left
              · simp only [Act.put, List.setIfInBounds_toArray, List.set_cons_zero, List.set_cons_succ, i64_w, i32_w]
                rfl
              refine pure_ (i := 8) (N := some 60) (v := ?_) (a' := ?_) #[true, true, true, true, true, true, true, true, true, false, false, false] rfl rfl (any_of HT_.out (by kernel_rfl)) (fun _ _ _ h => h) (Or.inl ⟨by rfl, ?_⟩) ?_ ?_
              rotate_left
              · intro w'
                go_simp
                with_reducible rfl
              rotate_left
              · simp only [Act.put, List.setIfInBounds_toArray, List.set_cons_zero, List.set_cons_succ, i64_w, i32_w]
                rfl
              refine one_ (i := 9) (N := some 61) #[true, true, true, true, true, true, true, true, true, true, false, false] rfl rfl (one_of HT_.out (by kernel_rfl)) (by decide) (fun K hK => ?_)
              refine goes_ Try.func12 (by kernel_rfl) rfl #[] (by rfl) rfl rfl (by (try simp only [List.map_toArray, List.map_cons, List.map_nil]); first | done | rfl | (simp only [List.length_drop, List.length_take]; rfl)) ?_
              with_reducible refine (timesynclaw55_awake.calls  true _ A97.out).mono ?_
              rintro e w101 ⟨rfl, hb⟩
              refine ⟨_, rfl, ?_⟩
              have n0_ := Aside0.mk (Kd.R_below (by (with_reducible repeat (first | apply Kd.R_alloc | apply Kd.R_drewN | apply Kd.R_drew)); exact HO_12.out) hb)
              have n1_ := Aside0.mk (blk_below (g := gb158) (o := .cells #[.int .i64 a3_0, .int .i64 a3_1, .int .i64 a3_2, .int .i64 a3_3, .int .i64 a3_4, .int .i64 a3_5, .int .u32 a3_6, .int .u32 a3_7, .int .u32 a3_8, .int .u64 a3_9, .int .u64 a3_10, .int .u64 a3_11, .int .u64 a3_12] 33 (0, 0)) (by (with_reducible repeat (first | refine blk_drewN ?_ _ | refine blk_drew ?_ | refine blk_alloc ?_ _)); exact BK158.out) hb)
              have n2_ := Aside0.mk (blk_below (g := gb159) (o := .cells #[.int .i64 a4_0, .int .i64 a4_1] 35 (0, 0)) (by (with_reducible repeat (first | refine blk_drewN ?_ _ | refine blk_drew ?_ | refine blk_alloc ?_ _)); exact BK159.out) hb)
              have n3_ := Aside0.mk (blk_below (g := gb162) (o := .cells #[.bool false, .int .i64 a3_0, .int .i64 a3_1, .int .i64 a3_2, .int .i64 a3_3, .int .i64 a3_4, .int .i64 a3_5, .int .u32 a3_6, .int .u32 a3_7, .int .u32 a3_8, .int .u64 a3_9, .int .u64 a3_10, .int .u64 a3_11, .int .u64 a3_12, .int .i64 a4_0, .int .i64 a4_1, .int .i64 0] 38 (0, 0)) (by (with_reducible repeat (first | refine blk_drewN ?_ _ | refine blk_drew ?_ | refine blk_alloc ?_ _)); exact BK162.out) hb)
              have n4_ := Aside0.mk (below_step (by repeat (first | (with_reducible first | exact HB.out | apply below_alloc | apply pw_below_drewN | apply below_drew1 | refine below_set ?_ GE158.out | refine below_set ?_ GE159.out | refine below_set ?_ GE162.out) | exact HB.out)) hb)
              clear HO_12
              clear BK158
              clear BK159
              clear BK162
              clear HB
              have HO_12 := n0_
              have BK158 := n1_
              have BK159 := n2_
              have BK162 := n3_
              have HB := n4_
              clear n0_ n1_ n2_ n3_ n4_
              (try clear hb)
              (try clear hb2)
              (try clear hk)
              (try clear hi)
              refine hK.out _ _ ⟨BK158.out, BK159.out, BK162.out⟩ (fun hHeld => ?_)
              clear hK K
              refine norm_ (a' := ?_) ?_ ?_
              rotate_left
              · show Act.put _ (some 61) _ = _
                simp only [Act.put, List.setIfInBounds_toArray, List.set_cons_zero, List.set_cons_succ, i64_w, i32_w]
                rfl
              refine pure_ (i := 10) (N := some 62) (v := ?_) (a' := ?_) #[true, true, true, true, true, true, true, true, true, true, true, false] rfl rfl (any_of HT_.out (by kernel_rfl)) (fun _ _ _ h => h) (Or.inl ⟨by rfl, ?_⟩) ?_ ?_
              rotate_left
              · intro w'
                go_simp
                with_reducible rfl
              rotate_left
              · simp only [Act.put, List.setIfInBounds_toArray, List.set_cons_zero, List.set_cons_succ, i64_w, i32_w]
                rfl
              refine pure_ (i := 11) (N := some 10) (v := ?_) (a' := ?_) #[true, true, true, true, true, true, true, true, true, true, true, true] rfl rfl (any_of HT_.out (by kernel_rfl)) (fun _ _ _ h => h) (Or.inl ⟨by rfl, ?_⟩) ?_ ?_
              rotate_left
              · intro w'
                go_simp
                with_reducible rfl
              rotate_left
              · simp only [Act.put, List.setIfInBounds_toArray, List.set_cons_zero, List.set_cons_succ, i64_w, i32_w]
                rfl
              refine done_ (done_of HT_.out (by kernel_rfl)) ?_
              try go_wp2
              go_ret
              exact ⟨by first | rfl | (simp [errW_none, errW_some] <;> rfl) | (simp [*, errW_none, errW_some] <;> rfl), by repeat (first | (with_reducible first | exact HB.out | apply below_alloc | apply pw_below_drewN | apply below_drew1 | refine below_set ?_ GE158.out | refine below_set ?_ GE159.out | refine below_set ?_ GE162.out) | exact HB.out)⟩
            · rw [if_neg c96] at H
              have c96b0 : (t169 == false && ((t170 == a3_0 && (t171 == a3_1 && (t172 == a3_2 && (t173 == a3_3 && (t174 == a3_4 && (t175 == a3_5 && (t176 == a3_6 && (t177 == a3_7 && (t178 == a3_8 && (t179 == a3_9 && (t180 == a3_10 && (t181 == a3_11 && (t182 == a3_12))))))))))))) && ((t183 == a4_0 && (t184 == a4_1)) && (t185 == 0)))) = false := by simpa using c96
              (try (have c96b1 : decide (t169 = false && ((t170 == a3_0 && (t171 == a3_1 && (t172 == a3_2 && (t173 == a3_3 && (t174 == a3_4 && (t175 == a3_5 && (t176 == a3_6 && (t177 == a3_7 && (t178 == a3_8 && (t179 == a3_9 && (t180 == a3_10 && (t181 == a3_11 && (t182 == a3_12))))))))))))) && ((t183 == a4_0 && (t184 == a4_1)) && (t185 == 0)))) = false := by simpa using c96))
              (try (have c96b2 : (t169 == false && ((t170 == a3_0 && (t171 == a3_1 && (t172 == a3_2 && (t173 == a3_3 && (t174 == a3_4 && (t175 == a3_5 && (t176 == a3_6 && (t177 == a3_7 && (t178 == a3_8 && (t179 == a3_9 && (t180 == a3_10 && (t181 == a3_11 && (t182 == a3_12))))))))))))) && ((t183 == a4_0 && (t184 == a4_1)) && (t185 == 0)))) = false := by simpa using c96))
              (try (have c96b3 : ¬ (t169 = false && ((t170 == a3_0 && (t171 == a3_1 && (t172 == a3_2 && (t173 == a3_3 && (t174 == a3_4 && (t175 == a3_5 && (t176 == a3_6 && (t177 == a3_7 && (t178 == a3_8 && (t179 == a3_9 && (t180 == a3_10 && (t181 == a3_11 && (t182 == a3_12))))))))))))) && ((t183 == a4_0 && (t184 == a4_1)) && (t185 == 0)))) := by simpa using c96))
              clear c96
              exact absurd H (by simp)
end Go.Proofs.Ytcnckfhibmlioaa.PFa
