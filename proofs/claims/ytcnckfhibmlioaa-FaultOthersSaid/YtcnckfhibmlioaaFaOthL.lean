/- FaultOthers: the walk and the plain law, joined: the faults of other nodes, and inactive ones, have no effect. -/
import Derived.Test.YtcnckfhibmlioaaFaTot
import Derived.Test.YtcnckfhibmlioaaFaOth
import Derived.Test.YtcnckfhibmlioaaFaOpen
namespace Go.Proofs.Ytcnckfhibmlioaa.Fa
open Go Go.RowKit Go.Proofs.Ytcnckfhibmlioaa Go.Proofs.Ytcnckfhibmlioaa.PFa Go.Proofs.Ytcnckfhibmlioaa.Ob Go.Proofs.YtcnckfhibmlioaaW.PrintWords
set_option linter.unusedVariables false
set_option linter.unusedSimpArgs false
theorem up {α : Type} (f : Nat → Option α) (hm : ∀ k, LeO (f k) (f (k + 1))) (r : α) (h : f 60 = some r) : ∀ m, f (60 + m) = some r
  | 0 => h
  | m + 1 => hm (60 + m) r (up f hm r h m)
theorem chk_up (l : List S46) (m : Nat) : fault_Check.f (60 + m) l = some (CHK l) := check_f l _ (by omega)
theorem app_up (l : List S46) (nd ta : Int) (p0 p1 p2 p3 p4 p5 p6 p7 p8 p9 p10 p11 p12 lo hi : Int) (y : Fg) (h : applyF 60 l nd ta (⟨false, p0, p1, p2, p3, p4, p5, p6, p7, p8, p9, p10, p11, p12, lo, hi, 0⟩ : Fg) = some y) (m : Nat) : fault_Apply.f (60 + m) l nd ta p0 p1 p2 p3 p4 p5 p6 p7 p8 p9 p10 p11 p12 lo hi = some (y.dr, y.p0, y.p1, y.p2, y.p3, y.p4, y.p5, y.p6, y.p7, y.p8, y.p9, y.p10, y.p11, y.p12, y.lo, y.hi, y.hd) := by
  refine up (fun k => fault_Apply.f k l nd ta p0 p1 p2 p3 p4 p5 p6 p7 p8 p9 p10 p11 p12 lo hi) (fun k => fault_Apply.mono l nd ta p0 p1 p2 p3 p4 p5 p6 p7 p8 p9 p10 p11 p12 lo hi k) _ ?_ m
  show (applyF 60 l nd ta (⟨false, p0, p1, p2, p3, p4, p5, p6, p7, p8, p9, p10, p11, p12, lo, hi, 0⟩ : Fg)).map _ = _
  rw [h]; rfl
set_option maxRecDepth 100000 in
theorem others_l0 (l : List S46) (hl : l.length ≤ 200) (nd ta : Int) (p0 p1 p2 p3 p4 p5 p6 p7 p8 p9 p10 p11 p12 lo hi : Int) (y : Fg) (hy : applyF 60 l nd ta (⟨false, p0, p1, p2, p3, p4, p5, p6, p7, p8, p9, p10, p11, p12, lo, hi, 0⟩ : Fg) = some y) : ∀ (d i : Nat), i + d = l.length →
    timesynclaw55_FaultOthers.l0 (80 + d + 1) l nd ta ((l.take i).filter (tst nd ta)) l (l.length : Int) (i : Int) p0 p1 p2 p3 p4 p5 p6 p7 p8 p9 p10 p11 p12 lo hi false p0 p1 p2 p3 p4 p5 p6 p7 p8 p9 p10 p11 p12 lo hi 0 = some true
  | 0, i, hq => by
    unfold timesynclaw55_FaultOthers.l0
    rw [if_neg (by omega), List.take_of_length_le (by omega), chk_up l 20, Option.bind_some, app_up l nd ta p0 p1 p2 p3 p4 p5 p6 p7 p8 p9 p10 p11 p12 lo hi y hy 20, Option.bind_some]
    by_cases c : CHK l = 0
    · rw [if_pos c]
      have hown : applyF 60 (l.filter (tst nd ta)) nd ta (⟨false, p0, p1, p2, p3, p4, p5, p6, p7, p8, p9, p10, p11, p12, lo, hi, 0⟩ : Fg) = some y := by rw [apply_own 60 (by omega) l nd ta _ c]; exact hy
      have hj : timesynclaw55_FaultOthers.j1 80 l nd ta (l.filter (tst nd ta)) false p0 p1 p2 p3 p4 p5 p6 p7 p8 p9 p10 p11 p12 lo hi y.dr y.p0 y.p1 y.p2 y.p3 y.p4 y.p5 y.p6 y.p7 y.p8 y.p9 y.p10 y.p11 y.p12 y.lo y.hi y.hd = some true := by
        rw [timesynclaw55_FaultOthers.j1, if_neg (by simp), app_up _ nd ta p0 p1 p2 p3 p4 p5 p6 p7 p8 p9 p10 p11 p12 lo hi y hown 19, Option.bind_some]
        simp only [beq_self_eq_true, Bool.and_self, if_true]
        rw [show fault_Active.f 79 l nd ta = some (actU l nd ta l.length) from by rw [active_f l nd ta 79 (by omega), if_pos c], Option.bind_some]
        have hlen := (act_fold 79 l nd ta y l.length (Nat.le_refl _)).2
        rw [List.take_of_length_le (Nat.le_refl _)] at hlen
        rw [if_pos (by rw [hlen])]; rfl
      by_cases c0 : ((l.filter (tst nd ta)).length : Int) = 0
      · rw [if_pos c0]
        have hnil : l.filter (tst nd ta) = [] := List.length_eq_zero_iff.mp (by omega)
        have e : y = (⟨false, p0, p1, p2, p3, p4, p5, p6, p7, p8, p9, p10, p11, p12, lo, hi, 0⟩ : Fg) := by
          rw [apply_fold 60 (by omega), if_pos c, hnil] at hy
          exact (Option.some.inj hy).symm
        subst e
        simp only [beq_self_eq_true, Bool.not_true, Bool.or_self]
        exact hj
      · rw [if_neg c0]; exact hj
    · rw [if_neg c, Option.bind_some]
      have e : y = (⟨false, p0, p1, p2, p3, p4, p5, p6, p7, p8, p9, p10, p11, p12, lo, hi, 0⟩ : Fg) := by
        rw [apply_fold 60 (by omega), if_neg c] at hy
        exact (Option.some.inj hy).symm
      subst e
      simp only [beq_self_eq_true, Bool.and_self, if_true]
      rfl
  | d + 1, i, hq => by
    have hlt : i < l.length := by omega
    have ih := others_l0 l hl nd ta p0 p1 p2 p3 p4 p5 p6 p7 p8 p9 p10 p11 p12 lo hi y hy d (i + 1) (by omega)
    rw [List.take_succ_eq_append_getElem hlt, List.filter_append] at ih
    have hlen : ((l.take i).filter (tst nd ta)).length ≤ 200 := Nat.le_trans (List.length_filter_le _ _) (by rw [List.length_take]; omega)
    rw [show 80 + (d + 1) + 1 = (80 + d + 1) + 1 by omega]
    conv => lhs; unfold timesynclaw55_FaultOthers.l0
    rw [if_pos (by omega), if_pos (by omega), if_pos (by omega), rd_at l i hlt, step_w i (by omega)]
    have t1 : ∀ b, tst nd ta l[i] = b → [l[i]].filter (tst nd ta) = if b = true then [l[i]] else [] := fun b hb => by rw [List.filter_cons, hb]; rfl
    by_cases h1 : (l[i]).f0 = nd
    · rw [if_pos h1]
      by_cases h2 : (l[i]).f1 ≤ ta
      · rw [if_pos h2]
        by_cases h3 : ta < (l[i]).f2
        · rw [if_pos h3, if_pos (by omega)]
          rw [t1 true (by unfold tst; rw [decide_eq_true h1, decide_eq_true h2, decide_eq_true h3]; rfl), if_pos rfl] at ih
          exact ih
        · rw [if_neg h3]
          rw [t1 false (by unfold tst; rw [decide_eq_false h3]; simp), if_neg (by simp), List.append_nil] at ih
          exact ih
      · rw [if_neg h2]
        rw [t1 false (by unfold tst; rw [decide_eq_false h2]; simp), if_neg (by simp), List.append_nil] at ih
        exact ih
    · rw [if_neg h1]
      rw [t1 false (by unfold tst; rw [decide_eq_false h1]; simp), if_neg (by simp), List.append_nil] at ih
      exact ih
theorem others_pure (l : List S46) (nd ta : Int) (p0 p1 p2 p3 p4 p5 p6 p7 p8 p9 p10 p11 p12 lo hi : Int) (h11 : 0 ≤ p11 ∧ p11 ≤ 18446744073709551615) (h12 : 0 ≤ p12 ∧ p12 ≤ 18446744073709551615) : timesynclaw55_FaultOthers.f (80 + l.length + 1) l nd ta p0 p1 p2 p3 p4 p5 p6 p7 p8 p9 p10 p11 p12 lo hi = some true := by
  unfold timesynclaw55_FaultOthers.f
  rw [show timesynclaw55_long.f l = some (decide ((l.length : Int) > 200)) from rfl, Option.bind_some]
  by_cases h : (l.length : Int) > 200
  · rw [decide_eq_true h, if_pos rfl]; rfl
  · rw [decide_eq_false h, if_neg (by simp)]
    obtain ⟨y, hy⟩ := applyF_tot l nd ta (⟨false, p0, p1, p2, p3, p4, p5, p6, p7, p8, p9, p10, p11, p12, lo, hi, 0⟩ : Fg) ⟨h11, h12⟩
    exact others_l0 l (by omega) nd ta p0 p1 p2 p3 p4 p5 p6 p7 p8 p9 p10 p11 p12 lo hi y hy l.length 0 (by omega)
theorem others_law (W : World) (A : Option Addr) (cap : Nat) (l : List S46) (hlc : l.length ≤ cap) (hcm : cap ≤ maxLen) (hC : Kd.C k46 W A l.length l) (hQ : ∀ a ∈ l, S46.wf a) (nd : Int) (wn : (Lit.int .i64 nd).wf = true) (ta : Int) (wt : (Lit.int .i64 ta).wf = true) (p0 p1 p2 p3 p4 p5 p6 p7 p8 p9 p10 p11 p12 : Int) (w3_0 : (Lit.int .i64 p0).wf = true) (w3_1 : (Lit.int .i64 p1).wf = true) (w3_2 : (Lit.int .i64 p2).wf = true) (w3_3 : (Lit.int .i64 p3).wf = true) (w3_4 : (Lit.int .i64 p4).wf = true) (w3_5 : (Lit.int .i64 p5).wf = true) (w3_6 : (Lit.int .u32 p6).wf = true) (w3_7 : (Lit.int .u32 p7).wf = true) (w3_8 : (Lit.int .u32 p8).wf = true) (w3_9 : (Lit.int .u64 p9).wf = true) (w3_10 : (Lit.int .u64 p10).wf = true) (w3_11 : (Lit.int .u64 p11).wf = true) (w3_12 : (Lit.int .u64 p12).wf = true) (lo hi : Int) (wl : (Lit.int .i64 lo).wf = true) (wh : (Lit.int .i64 hi).wf = true) :
    Calls Try.prog 6 #[.slice A l.length cap, .int .i64 nd, .int .i64 ta, .agg #[.int .i64 p0, .int .i64 p1, .int .i64 p2, .int .i64 p3, .int .i64 p4, .int .i64 p5, .int .u32 p6, .int .u32 p7, .int .u32 p8, .int .u64 p9, .int .u64 p10, .int .u64 p11, .int .u64 p12], .agg #[.int .i64 lo, .int .i64 hi]] W fun e W' => e = .returned (.bool true) ∧ Below W.heap.size W W' := by
  have f64 : ∀ a : Int, (Lit.int .u64 a).wf = true → 0 ≤ a ∧ a ≤ 18446744073709551615 := fun a h => by simpa [Lit.wf, IntKind.min, IntKind.max, IntKind.signed, IntKind.bits] using h
  exact timesynclaw55_FaultOthers.true_ (80 + l.length + 1) A cap l nd ta p0 p1 p2 p3 p4 p5 p6 p7 p8 p9 p10 p11 p12 lo hi W hC hlc (others_pure l nd ta p0 p1 p2 p3 p4 p5 p6 p7 p8 p9 p10 p11 p12 lo hi (f64 _ w3_11) (f64 _ w3_12))
end Go.Proofs.Ytcnckfhibmlioaa.Fa
