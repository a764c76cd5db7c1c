/- The row of the law TopDrift: for every oscillator, time and duration the law returns true: aged intervals keep true time. Its walk is printed, its numbers are in DrFns; this text opens the argument (a struct with a slice of structs). -/
import Derived.Test.YtdpdpljbmncmeaaRows
import Derived.Test.YtdpdpljbmncmeaaDrFns
import Derived.Test.YtdpdpljbmncmeaaOpen
import Derived.Lib.SmallJoins
import Derived.WalkKit
import Derived.ProofKit
import Derived.OpenShut
import Derived.ChangeOld
import Derived.Below
import Derived.SizedLaws
namespace Go.Proofs.Ytdpdpljbmncmeaa.topDrift
open Go.ChangeShapes Go.WideShapes Go.ChangeAt Go.RowKit Go.Deep
set_option linter.unusedVariables false
theorem own : ownKnob Try.prog.godebug = none := by kernel_rfl
theorem laidOut : laidOutB Try.prog = true := by kernel_rfl
set_option maxRecDepth 100000 in
open Go.Proofs.Ytdpdpljbmncmeaa.PDr in
/-- A segment reads as two numbers. -/
theorem seg {H : Type} {enc : TypeId × Value → H} {w : World} {base : Nat} {spare : Nat → Bool} {held : Bool} (n : Nat) (cs : List Value) (x : DataW H × List MemPlace) (h : DataW.trod enc Try.prog w base spare held n 83 cs = some x) :
    ∃ a : S83, k83.K w a cs ∧ True := by
  obtain ⟨hl, hf⟩ := Open.field Try.underlying83 h
  obtain ⟨n0, y0, h0⟩ := hf 0 _ rfl
  obtain ⟨n1, y1, h1⟩ := hf 1 _ rfl
  obtain ⟨a0, c0, _⟩ := Open.field_int Try.underlying3 (by kernel_rfl) h0
  obtain ⟨a1, c1, _⟩ := Open.field_int Try.underlying3 (by kernel_rfl) h1
  have hl2 : cs.length = 2 := hl.trans (by kernel_rfl)
  refine ⟨⟨a0, a1⟩, ?_, trivial⟩
  have e : cs = [.int .i64 a0, .int .i64 a1] := by
    apply List.ext_getElem?
    intro i
    match i with
    | 0 => exact c0
    | 1 => exact c1
    | j + 2 => rw [List.getElem?_eq_none (by omega), List.getElem?_eq_none (by simp)]
  rw [e]
  exact k83_mk w ⟨a0, a1⟩
theorem law (a0_0 : Int) (A0_1 : Option Addr) (c0_1 : Nat) (l0_1 : List PDr.S83) (a1 a2 : Int) (w : World) (hr : Proofs.YtdpdpljbmncmeaaW.PrintWords.Kd.C PDr.k83 w A0_1 l0_1.length l0_1) (hc : l0_1.length ≤ c0_1) (w1 : (Lit.int .i64 a1).wf = true) (w2 : (Lit.int .i64 a2).wf = true) :
    Calls Try.prog 4 #[.agg #[.int .i64 a0_0, .slice A0_1 l0_1.length c0_1], .int .i64 a1, .int .i64 a2] w fun e w' => e = .returned (.bool true) ∧ Below w.heap.size w w' :=
  PDr.timesynctop_TopDrift.calls 101 a0_0 A0_1 c0_1 l0_1 a1 a2 true w hr hc (Dr.drift_law 100 (by omega) a0_0 l0_1 a1 a2 (Math.wf64 w1).1 (Math.wf64 w1).2 (Math.wf64 w2).1 (Math.wf64 w2).2)
set_option maxRecDepth 100000 in
theorem lifted (os : Os) (started : os.Started) (H : Type) (enc : TypeId × Value → H) :
    ReturnsInHanded {} Try.checked os 4 .any (Rows.topDriftSpec.pre6 enc Try.prog Try.f4 Rows.topDriftRow.domain false) (Rows.topDriftSpec.post enc Try.prog Try.f4 false true false false) := by
  refine returnsInHanded_of_change_sized (C := Try.checked) own started (by kernel_rfl) Try.func4
    (ChangeSpec.witness6 (enc := enc) (C := Try.checked) false ⟨#[], #[.agg #[.int .i64 0, .slice none 0 0], .int .i64 0, .int .i64 0], []⟩ 8 (by kernel_rfl) (by kernel_rfl) (by kernel_rfl) (by kernel_rfl)) ?_
  intro W base args ds gs before hval0 hW hcnd hsz0 _
  have hval : ∀ (j : Nat) t v, Try.f4.params[j]? = some t → args[j]? = some v → Value.okWide Try.prog W .any base t v := hval0
  have hW' := hW
  obtain ⟨p, q, hA0, hV, rfl, hfz, hnd⟩ := hW
  have hA : DataW.TrodAll enc Try.prog W 0 (fun _ => true) true Try.f4.params.toList args.toList ds p := hA0
  rw [Try.params4] at hA hval
  obtain ⟨v0, vs0, d0, ds0, p0, q0, hargs, rfl, rfl, h0, r0⟩ := trodAll_cons hA
  obtain ⟨v1, vs1, d1, ds1, p1, q1, rfl, rfl, rfl, h1, r1⟩ := trodAll_cons r0
  obtain ⟨v2, vs2, d2, ds2, p2, q2, rfl, rfl, rfl, h2, r2⟩ := trodAll_cons r1
  obtain ⟨rfl, rfl, rfl⟩ := trodAll_nil r2
  obtain rfl : args = #[v0, v1, v2] := by cases args; simp_all
  obtain ⟨rfl, rfl⟩ := trodVars_none hV
  have k0 := h0
  have lt0 : ∀ x ∈ p0, x.block < W.heap.size := by obtain ⟨m, hm⟩ := k0; exact DataW.trod_lt m _ _ _ hm
  obtain ⟨u0, u1, y0, y1, n, rfl, -, -, t0, t1⟩ := Go.Joins.open_agg2 Try.underlying29 (by kernel_rfl) (by kernel_rfl) (hval 0 29 v0 rfl rfl) h0
  obtain ⟨ph, e0, -, -⟩ := DataW.trod_int Try.underlying3 t0
  obtain ⟨A, cap, l, e1, hlc, hcm, hC, -⟩ := Open.open_rows PDr.k83 PDr.z83 (fun _ => True) Try.underlying27 (by kernel_rfl) (fun n cs' x' hh => seg n cs' x' hh) t1
  obtain rfl : u0 = .int .i64 ph := by simpa using e0
  obtain rfl : u1 = .slice A l.length cap := by simpa using e1
  obtain ⟨a1, rfl, rfl, rfl, w1⟩ := open_int Try.underlying3 (hval 1 3 v1 rfl rfl) h1
  obtain ⟨a2, rfl, rfl, rfl, w2⟩ := open_int Try.underlying3 (hval 2 3 v2 rfl rfl) h2
  clear hA0 hval0 hsz0
  refine (law ph A cap l a1 a2 W hC hlc w1 w2).mono fun e W' ⟨he, bel⟩ => ?_
  subst he
  exact ⟨_, rfl, _, _, _, [], _, [], hW', trodAll_mk1 (shut_bool Try.underlying4 _), (trodAll_cons_mk (Below.trod laidOut (by kernel_rfl) (of_decide_eq_true (by kernel_rfl)) k0 bel lt0) (trodAll_cons_mk (shut_int Try.underlying3 w1) (trodAll_cons_mk (shut_int Try.underlying3 w2) trodAll_mk0))), rfl, bel.frame _, fun h => by cases h⟩
theorem over : Rows.topDriftRow.holds Try.pinned (OpenSpec.ofChange Rows.topDriftSpec) :=
  OpenClaim.holds_of_wide 4 Try.f4 rfl rfl rfl rfl rfl rfl rfl ⟨rfl, rfl, rfl, rfl, rfl⟩ rfl rfl rfl rfl rfl (by kernel_rfl) Try.func4 (by kernel_rfl)
    (of_decide_eq_true (by kernel_rfl)) (by unfold Func.isWrapper; first | (rw [if_pos (by decide +kernel)]; kernel_rfl) | (rw [if_neg (by decide +kernel)]; exact ⟨rfl, rfl⟩))
    (fun os started H enc _ => lifted os started H enc)
theorem proved : Rows.TopDriftSaid := over
#print axioms proved
end Go.Proofs.Ytdpdpljbmncmeaa.topDrift
namespace Go.Proofs.Ytdpdpljbmncmeaa
/-- The row, under a short name, for the claim. -/
theorem topDrift_holds : Rows.TopDriftSaid := topDrift.proved
end Go.Proofs.Ytdpdpljbmncmeaa
