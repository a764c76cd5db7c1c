/- AssocRuns: the walk and its guards, joined. -/
import Derived.Test.YtohjmfjdopffkaaRuns
namespace Go.Proofs.Ytohjmfjdopffkaa.As
open Go Go.RowKit Go.Proofs.YtohjmfjdopffkaaW.PrintWords Go.Proofs.YtohjmfjdopffkaaW.PrintLast Go.Proofs.YtohjmfjdopffkaaW.PrintMore Go.Proofs.Ytohjmfjdopffkaa.PAs Go.Proofs.Ytohjmfjdopffkaa.AsP Go.Proofs.Ytohjmfjdopffkaa.FxAs Go.Proofs.Ytohjmfjdopffkaa.Math Go.Proofs.Ytohjmfjdopffkaa.Ob
attribute [local go_sem] max2_int min2_int max_two min_two max_three min_three max_four min_four
set_option linter.unusedVariables false
set_option linter.unusedSimpArgs false
set_option maxHeartbeats 2000000 in
set_option maxRecDepth 100000 in
theorem runs_no (w : World) (v : Int) (A : Option Addr) (cap : Nat) (l : List Opn) (h : v < 1 ∨ 4 < v) : Calls Try.prog 3 #[.int .i64 v, .slice A l.length cap] w fun e w' => e = .returned (.bool true) ∧ Grew w w' none := by
  have GR : Aside0 (Grew w w none) := Aside0.mk (Grew.refl w none)
  have H := Aside0.mk h
  rcases h with h | h
  · have c1 : decide (1 ≤ v) = false := decide_eq_false (by omega)
    clear h
    go_enter Try.func3, Try.ntmps3
    go_wp2_with (first
      | (go_at_call 9; (with_reducible refine (newP_no v H.out _).mono ?_); rintro e w1 ⟨rfl, hgr⟩; replace GR := Aside0.mk (GR.out.nxt hgr rfl rfl rfl rfl); clear hgr)
      | (go_at_call 10; (with_reducible refine (newR_no v H.out _).mono ?_); rintro e w1 ⟨rfl, hgr⟩; replace GR := Aside0.mk (GR.out.nxt hgr rfl rfl rfl rfl); clear hgr)
      | (go_at_call 11; (with_reducible refine (awake_ok _).mono ?_); rintro e w2 ⟨rfl, hgr⟩; replace GR := Aside0.mk (GR.out.nxt hgr rfl rfl rfl rfl); clear hgr))
    go_ret
    exact ⟨rfl, GR.out⟩
  · have c1 : decide (1 ≤ v) = true := decide_eq_true (by omega)
    have c2 : decide (v ≤ 4) = false := decide_eq_false (by omega)
    clear h
    go_enter Try.func3, Try.ntmps3
    go_wp2_with (first
      | (go_at_call 9; (with_reducible refine (newP_no v H.out _).mono ?_); rintro e w1 ⟨rfl, hgr⟩; replace GR := Aside0.mk (GR.out.nxt hgr rfl rfl rfl rfl); clear hgr)
      | (go_at_call 10; (with_reducible refine (newR_no v H.out _).mono ?_); rintro e w1 ⟨rfl, hgr⟩; replace GR := Aside0.mk (GR.out.nxt hgr rfl rfl rfl rfl); clear hgr)
      | (go_at_call 11; (with_reducible refine (awake_ok _).mono ?_); rintro e w2 ⟨rfl, hgr⟩; replace GR := Aside0.mk (GR.out.nxt hgr rfl rfl rfl rfl); clear hgr))
    go_ret
    exact ⟨rfl, GR.out⟩
set_option maxHeartbeats 2000000 in
set_option maxRecDepth 100000 in
theorem runs_long (w : World) (v : Int) (A : Option Addr) (cap : Nat) (l : List Opn) (h1 : 1 ≤ v) (h2 : v ≤ 4) (h60 : 60 < l.length) : Calls Try.prog 3 #[.int .i64 v, .slice A l.length cap] w fun e w' => e = .returned (.bool true) ∧ Grew w w' none := by
  have GR : Aside0 (Grew w w none) := Aside0.mk (Grew.refl w none)
  have H1 := Aside0.mk h1
  have H2 := Aside0.mk h2
  have c1 : decide (1 ≤ v) = true := decide_eq_true h1
  have c2 : decide (v ≤ 4) = true := decide_eq_true h2
  have c60 : decide (60 < (l.length : Int)) = true := decide_eq_true (by omega)
  clear h1 h2 h60
  go_enter Try.func3, Try.ntmps3
  go_wp2_with (first
    | (go_at_call 9; (with_reducible refine (newP_ok v H1.out H2.out _).mono ?_); rintro e w1 ⟨ga, rfl, hle, hbox, hgr⟩; clear hle hbox; replace GR := Aside0.mk (GR.out.nxt hgr rfl rfl rfl rfl); clear hgr)
    | (go_at_call 10; (with_reducible refine (newR_ok v H1.out H2.out _).mono ?_); rintro e w2 ⟨gb, rfl, hle, hbox, hgr⟩; clear hle hbox; replace GR := Aside0.mk (GR.out.nxt hgr rfl rfl rfl rfl); clear hgr)
    | (go_at_call 11; (with_reducible refine (awake_ok _).mono ?_); rintro e w2 ⟨rfl, hgr⟩; replace GR := Aside0.mk (GR.out.nxt hgr rfl rfl rfl rfl); clear hgr))
  go_ret
  exact ⟨rfl, GR.out⟩
theorem runs_law (w : World) (v : Int) (wv : (Lit.int .i64 v).wf = true) (A : Option Addr) (cap : Nat) (l : List Opn) (hlc : l.length ≤ cap) (hcm : cap ≤ maxLen) (hC : Kd.C kop w A l.length l) (hQ : ∀ a ∈ l, a.wf) : Calls Try.prog 3 #[.int .i64 v, .slice A l.length cap] w fun e w' => e = .returned (.bool true) ∧ Grew w w' none := by
  by_cases h1 : 1 ≤ v
  · by_cases h2 : v ≤ 4
    · by_cases h60 : l.length ≤ 60
      · exact runs_main w v A cap l ⟨decide_eq_true h1⟩ ⟨decide_eq_true h2⟩ h60 hlc hC hQ
      · exact runs_long w v A cap l h1 h2 (by omega)
    · exact runs_no w v A cap l (.inr (by omega))
  · exact runs_no w v A cap l (.inl (by omega))
end Go.Proofs.Ytohjmfjdopffkaa.As
