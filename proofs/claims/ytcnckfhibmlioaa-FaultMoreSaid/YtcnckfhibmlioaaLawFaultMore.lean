/- The row of the statement FaultMore: for every input the law returns true. -/
import Derived.Test.YtcnckfhibmlioaaRows
import Derived.Test.YtcnckfhibmlioaaFaMo
import Derived.Test.YtcnckfhibmlioaaFaOpen
import Derived.Lib.SmallJoins
import Derived.WalkKit
import Derived.ProofKit
import Derived.OpenShut
import Derived.ChangeOld
import Derived.Below
import Derived.SizedLaws
namespace Go.Proofs.Ytcnckfhibmlioaa.faultMore
open Go.ChangeShapes Go.WideShapes Go.ChangeAt Go.RowKit Go.Deep
set_option linter.unusedVariables false
theorem own : ownKnob Try.prog.godebug = none := by kernel_rfl
theorem laidOut : laidOutB Try.prog = true := by kernel_rfl
set_option maxRecDepth 100000 in
theorem lifted (os : Os) (started : os.Started) (H : Type) (enc : TypeId × Value → H) :
    ReturnsInHanded {} Try.checked os 10 .any (Rows.faultMoreSpec.pre6 enc Try.prog Try.f10 Rows.faultMoreRow.domain false) (Rows.faultMoreSpec.post enc Try.prog Try.f10 false true false false) := by
  refine returnsInHanded_of_change_sized (C := Try.checked) own started (by kernel_rfl) Try.func10
    (ChangeSpec.witness6 (enc := enc) (C := Try.checked) false ⟨#[], #[.int .i64 0, .slice none 0 0, .slice none 0 0, .agg #[.int .i64 0, .int .i64 0, .int .i64 0, .int .i64 0, .int .i64 0]], []⟩ 8 (by kernel_rfl) (by kernel_rfl) (by kernel_rfl) (by kernel_rfl)) ?_
  intro W base args ds gs before hval0 hW hcnd hsz0 _
  have hval : ∀ (j : Nat) t v, Try.f10.params[j]? = some t → args[j]? = some v → Value.okWide Try.prog W .any base t v := hval0
  have hsz : (DataW.weightsEach Try.prog (Try.f10.params.toList ++ Rows.faultMoreSpec.plain.varTypes Try.prog) (ds ++ gs)).all (· ≤ reachBytes) = true := hsz0
  have hW' := hW
  obtain ⟨p, q, hA0, hV, rfl, hfz, hnd⟩ := hW
  have hA : DataW.TrodAll enc Try.prog W 0 (fun _ => true) true Try.f10.params.toList args.toList ds p := hA0
  rw [Try.params10] at hA hval hsz
  obtain ⟨v0, vs0, d0, ds0, p0, q0, hargs, rfl, rfl, h0, r0⟩ := trodAll_cons hA
  obtain ⟨v1, vs1, d1, ds1, p1, q1, rfl, rfl, rfl, h1, r1⟩ := trodAll_cons r0
  obtain ⟨v2, vs2, d2, ds2, p2, q2, rfl, rfl, rfl, h2, r2⟩ := trodAll_cons r1
  obtain ⟨v3, vs3, d3, ds3, p3, q3, rfl, rfl, rfl, h3, r3⟩ := trodAll_cons r2
  obtain ⟨rfl, rfl, rfl⟩ := trodAll_nil r3
  obtain rfl : args = #[v0, v1, v2, v3] := by cases args; simp_all
  obtain ⟨rfl, rfl⟩ := trodVars_none hV
  obtain ⟨a0, rfl, rfl, rfl, w0⟩ := open_int Try.underlying3 (hval 0 3 v0 rfl rfl) h0
  have k1 := h1
  have lt1 : ∀ x ∈ p1, x.block < W.heap.size := by obtain ⟨m, hm⟩ := k1; exact DataW.trod_lt m _ _ _ hm
  obtain ⟨fuel1, hf1⟩ := h1
  obtain ⟨A1, cap1, l1, e1, hlc1, hcm1, hC1, hQ1⟩ := Fa.open41s hf1 (fun es sp he e' sp' hm => by have he' : d1 = .slice es sp := he; subst he'; exact Fa.reach_lim (Fa.sized_in hsz (j := 1) (t := 41) (e := 28) (q := 3) rfl rfl Try.underlying41 Try.underlying28 hm))
  obtain rfl : v1 = .slice A1 l1.length cap1 := Fa.one_cell Try.underlying41 (hval 1 41 v1 rfl rfl) e1
  have k2 := h2
  have lt2 : ∀ x ∈ p2, x.block < W.heap.size := by obtain ⟨m, hm⟩ := k2; exact DataW.trod_lt m _ _ _ hm
  obtain ⟨fuel2, hf2⟩ := h2
  obtain ⟨A2, cap2, l2, e2, hlc2, hcm2, hC2, hQ2, hs2⟩ := Fa.open22s hf2 (fun es sp he => by have he' : d2 = .slice es sp := he; subst he'; exact Fa.reach_lim40 (Fa.sized_len hsz (j := 2) (t := 22) (e := 46) rfl rfl Try.underlying22))
  obtain rfl : v2 = .slice A2 l2.length cap2 := Fa.one_cell Try.underlying22 (hval 2 22 v2 rfl rfl) e2
  have k3 := h3
  have lt3 : ∀ x ∈ p3, x.block < W.heap.size := by obtain ⟨m, hm⟩ := k3; exact DataW.trod_lt m _ _ _ hm
  obtain ⟨cs3, n3, rfl, t3⟩ := Fa.arg_agg Try.underlying46 (hval 3 46 v3 rfl rfl) h3
  obtain ⟨b3_0, b3_1, b3_2, b3_3, b3_4, rfl, w3_0, w3_1, w3_2, w3_3, w3_4⟩ := Fa.open46 n3 cs3 _ t3
  clear hA0 hval0 hsz0
  refine (Fa.more_law W a0 w0 A1 cap1 l1 hlc1 hcm1 hC1 hQ1 A2 cap2 l2 hlc2 hcm2 hC2 hQ2 hs2 b3_0 b3_1 b3_2 b3_3 b3_4 w3_0 w3_1 w3_2 w3_3 w3_4).mono fun e W' ⟨he, bel⟩ => ?_
  subst he
  exact ⟨_, rfl, _, _, _, [], _, [], hW', trodAll_mk1 (shut_bool Try.underlying4 _), (trodAll_cons_mk (shut_int Try.underlying3 w0) (trodAll_cons_mk (Below.trod laidOut (by kernel_rfl) (of_decide_eq_true (by kernel_rfl)) k1 bel lt1) (trodAll_cons_mk (Below.trod laidOut (by kernel_rfl) (of_decide_eq_true (by kernel_rfl)) k2 bel lt2) (trodAll_cons_mk (Below.trod laidOut (by kernel_rfl) (of_decide_eq_true (by kernel_rfl)) k3 bel lt3) trodAll_mk0)))), rfl, bel.frame _, fun h => by cases h⟩
theorem over : Rows.faultMoreRow.holds Try.pinned (OpenSpec.ofChange Rows.faultMoreSpec) :=
  OpenClaim.holds_of_wide 10 Try.f10 rfl rfl rfl rfl rfl rfl rfl ⟨rfl, rfl, rfl, rfl, rfl⟩ rfl rfl rfl rfl rfl (by kernel_rfl) Try.func10 (by kernel_rfl)
    (of_decide_eq_true (by kernel_rfl)) (by unfold Func.isWrapper; first | (rw [if_pos (by decide +kernel)]; kernel_rfl) | (rw [if_neg (by decide +kernel)]; exact ⟨rfl, rfl⟩))
    (fun os started H enc _ => lifted os started H enc)
theorem proved : Rows.FaultMoreSaid := over
#print axioms proved
end Go.Proofs.Ytcnckfhibmlioaa.faultMore
namespace Go.Proofs.Ytcnckfhibmlioaa
/-- The row, under a short name, for the claim. -/
theorem faultMore_holds : Rows.FaultMoreSaid := faultMore.proved
end Go.Proofs.Ytcnckfhibmlioaa
