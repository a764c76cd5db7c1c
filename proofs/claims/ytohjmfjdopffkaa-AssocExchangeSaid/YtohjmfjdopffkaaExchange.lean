/- AssocExchange: the walks: an honest reply to the pending request has the outcome HeardOk. -/
import Derived.Test.YtohjmfjdopffkaaOb
import Derived.Test.YtohjmfjdopffkaaAwake
import Derived.Test.YtohjmfjdopffkaaAsOpen
import Derived.WalkSpells
import Derived.Deep.QuietTactic
import Derived.BigQuiet
import Derived.Deep.RegionHeld3
namespace Go.Proofs.Ytohjmfjdopffkaa.As
open Go Go.RowKit Go.Proofs.YtohjmfjdopffkaaW.PrintWords Go.Proofs.YtohjmfjdopffkaaW.PrintLast Go.Proofs.YtohjmfjdopffkaaW.PrintMore Go.Proofs.Ytohjmfjdopffkaa.PAs Go.Proofs.Ytohjmfjdopffkaa.AsP Go.Proofs.Ytohjmfjdopffkaa.Ob
attribute [local go_sem] max2_int min2_int max_two min_two max_three min_three max_four min_four
set_option linter.unusedVariables false
set_option linter.unusedSimpArgs false
theorem blk_set {w : World} {g p : Nat} {t : TypeId} {cs : Array Value} (h : Blk w g t cs) (i : Nat) (u : Value) (hne : g ≠ p) : Blk (w.setCell ⟨p, i, none⟩ u) g t cs := h.far (grew_setCell w p i u) hne
theorem blk_old {w : World} {g : Nat} {t : TypeId} {cs : Array Value} (h : Blk w g t cs) (o : Obj) : Blk (w.alloc o) g t cs := (Below.heap_alloc w o g h.lt).trans h
set_option maxHeartbeats 2000000 in
set_option maxRecDepth 100000 in
theorem exchange_g0 (w : World) (nonce q1 q2 q3 q4 stratum : Int) (z0 : nonce = 0)  : Calls Try.prog 5 #[.int .u64 nonce, .agg #[.int .i64 q1, .int .i64 q2, .int .i64 q3, .int .i64 q4], .int .i64 stratum] w fun e w' => e = .returned (.bool true) ∧ Grew w w' none := by
  have GR : Aside0 (Grew w w none) := Aside0.mk (Grew.refl w none)
  have z01 : (nonce == 0) = true := beq_iff_eq.mpr z0
  have z02 : (nonce != 0) = false := bne_eq_false_iff_eq.mpr z0
  clear z0
  go_enter Try.func5, Try.ntmps5
  go_wp2_with (first
    | ((with_reducible refine gate_dst (N := 4) rfl ?_); refine ev_box rfl (N := 4) rfl (cs := #[.int .i64 q1, .int .i64 q2, .int .i64 q3, .int .i64 q4]) (t := 38) ?hr ?_; (case hr => first | (go_simp; done) | (go_simp; rfl)); intro gq hle w1 hbox hgr; have Lq := Aside0.mk (GR.out.young hgr rfl hle); clear hle; have Bq := Aside0.mk hbox; clear hbox; replace GR := Aside0.mk (GR.out.nxt hgr rfl rfl rfl rfl); clear hgr)
    | (go_at_call 9; (with_reducible refine (newP_ok 4 (by decide) (by decide) _).mono ?_); rintro e w2 ⟨ga, rfl, hle, hbox, hgr⟩; have Nqa := Aside0.mk (hgr.apart Bq.out hle); have La := Aside0.mk (GR.out.young hgr rfl hle); clear hle; have Ba := Aside0.mk hbox; clear hbox; replace Bq := Aside0.mk (hgr.blk Bq.out); replace GR := Aside0.mk (GR.out.nxt hgr rfl rfl rfl rfl); clear hgr; have qq0 := Bq.out.cell 0 rfl; have qq1 := Bq.out.cell 1 rfl; have qq2 := Bq.out.cell 2 rfl; have qq3 := Bq.out.cell 3 rfl)
    | (go_at_call 11; (with_reducible refine (awake_ok _).mono ?_); rintro e w3 ⟨rfl, hb⟩; have hgr := hb; clear hb; clear qq0 qq1 qq2 qq3; replace Bq := Aside0.mk (hgr.blk Bq.out); replace Ba := Aside0.mk (hgr.blk Ba.out); replace GR := Aside0.mk (GR.out.nxt hgr rfl rfl rfl rfl); clear hgr))
  go_ret
  exact ⟨rfl, GR.out⟩
set_option maxHeartbeats 2000000 in
set_option maxRecDepth 100000 in
theorem exchange_g1 (w : World) (nonce q1 q2 q3 q4 stratum : Int) (z0 : nonce ≠ 0) (hj1 : timesynclaw31_in.f q1 = some false)  : Calls Try.prog 5 #[.int .u64 nonce, .agg #[.int .i64 q1, .int .i64 q2, .int .i64 q3, .int .i64 q4], .int .i64 stratum] w fun e w' => e = .returned (.bool true) ∧ Grew w w' none := by
  have GR : Aside0 (Grew w w none) := Aside0.mk (Grew.refl w none)
  have z01 : (nonce == 0) = false := beq_eq_false_iff_ne.mpr z0
  have z02 : (nonce != 0) = true := bne_iff_ne.mpr z0
  have HJ1 := Aside0.mk hj1
  clear hj1
  clear z0
  go_enter Try.func5, Try.ntmps5
  go_wp2_with (first
    | ((with_reducible refine gate_dst (N := 4) rfl ?_); refine ev_box rfl (N := 4) rfl (cs := #[.int .i64 q1, .int .i64 q2, .int .i64 q3, .int .i64 q4]) (t := 38) ?hr ?_; (case hr => first | (go_simp; done) | (go_simp; rfl)); intro gq hle w1 hbox hgr; have Lq := Aside0.mk (GR.out.young hgr rfl hle); clear hle; have Bq := Aside0.mk hbox; clear hbox; replace GR := Aside0.mk (GR.out.nxt hgr rfl rfl rfl rfl); clear hgr)
    | (go_at_call 9; (with_reducible refine (newP_ok 4 (by decide) (by decide) _).mono ?_); rintro e w2 ⟨ga, rfl, hle, hbox, hgr⟩; have Nqa := Aside0.mk (hgr.apart Bq.out hle); have La := Aside0.mk (GR.out.young hgr rfl hle); clear hle; have Ba := Aside0.mk hbox; clear hbox; replace Bq := Aside0.mk (hgr.blk Bq.out); replace GR := Aside0.mk (GR.out.nxt hgr rfl rfl rfl rfl); clear hgr; have qq0 := Bq.out.cell 0 rfl; have qq1 := Bq.out.cell 1 rfl; have qq2 := Bq.out.cell 2 rfl; have qq3 := Bq.out.cell 3 rfl)
    | (go_at_call 21; (with_reducible refine (timesynclaw31_in.calls q1 false _ HJ1.out).mono ?_); rintro e w3 ⟨rfl, hb⟩; have hgr := Grew.drawn0 hb; clear hb; clear qq0 qq1 qq2 qq3; replace Bq := Aside0.mk (hgr.blk Bq.out); replace Ba := Aside0.mk (hgr.blk Ba.out); replace GR := Aside0.mk (GR.out.nxt hgr rfl rfl rfl rfl); clear hgr; have qq0 := Bq.out.cell 0 rfl; have qq1 := Bq.out.cell 1 rfl; have qq2 := Bq.out.cell 2 rfl; have qq3 := Bq.out.cell 3 rfl)
    | (go_at_call 11; (with_reducible refine (awake_ok _).mono ?_); rintro e w4 ⟨rfl, hb⟩; have hgr := hb; clear hb; clear qq0 qq1 qq2 qq3; replace Bq := Aside0.mk (hgr.blk Bq.out); replace Ba := Aside0.mk (hgr.blk Ba.out); replace GR := Aside0.mk (GR.out.nxt hgr rfl rfl rfl rfl); clear hgr))
  go_ret
  exact ⟨rfl, GR.out⟩
set_option maxHeartbeats 2000000 in
set_option maxRecDepth 100000 in
theorem exchange_g2 (w : World) (nonce q1 q2 q3 q4 stratum : Int) (z0 : nonce ≠ 0) (hj1 : timesynclaw31_in.f q1 = some true) (hj2 : timesynclaw31_in.f q2 = some false)  : Calls Try.prog 5 #[.int .u64 nonce, .agg #[.int .i64 q1, .int .i64 q2, .int .i64 q3, .int .i64 q4], .int .i64 stratum] w fun e w' => e = .returned (.bool true) ∧ Grew w w' none := by
  have GR : Aside0 (Grew w w none) := Aside0.mk (Grew.refl w none)
  have z01 : (nonce == 0) = false := beq_eq_false_iff_ne.mpr z0
  have z02 : (nonce != 0) = true := bne_iff_ne.mpr z0
  have HJ1 := Aside0.mk hj1
  clear hj1
  have HJ2 := Aside0.mk hj2
  clear hj2
  clear z0
  go_enter Try.func5, Try.ntmps5
  go_wp2_with (first
    | ((with_reducible refine gate_dst (N := 4) rfl ?_); refine ev_box rfl (N := 4) rfl (cs := #[.int .i64 q1, .int .i64 q2, .int .i64 q3, .int .i64 q4]) (t := 38) ?hr ?_; (case hr => first | (go_simp; done) | (go_simp; rfl)); intro gq hle w1 hbox hgr; have Lq := Aside0.mk (GR.out.young hgr rfl hle); clear hle; have Bq := Aside0.mk hbox; clear hbox; replace GR := Aside0.mk (GR.out.nxt hgr rfl rfl rfl rfl); clear hgr)
    | (go_at_call 9; (with_reducible refine (newP_ok 4 (by decide) (by decide) _).mono ?_); rintro e w2 ⟨ga, rfl, hle, hbox, hgr⟩; have Nqa := Aside0.mk (hgr.apart Bq.out hle); have La := Aside0.mk (GR.out.young hgr rfl hle); clear hle; have Ba := Aside0.mk hbox; clear hbox; replace Bq := Aside0.mk (hgr.blk Bq.out); replace GR := Aside0.mk (GR.out.nxt hgr rfl rfl rfl rfl); clear hgr; have qq0 := Bq.out.cell 0 rfl; have qq1 := Bq.out.cell 1 rfl; have qq2 := Bq.out.cell 2 rfl; have qq3 := Bq.out.cell 3 rfl)
    | (go_at_call 21; (with_reducible refine (timesynclaw31_in.calls q1 true _ HJ1.out).mono ?_); rintro e w3 ⟨rfl, hb⟩; have hgr := Grew.drawn0 hb; clear hb; clear qq0 qq1 qq2 qq3; replace Bq := Aside0.mk (hgr.blk Bq.out); replace Ba := Aside0.mk (hgr.blk Ba.out); replace GR := Aside0.mk (GR.out.nxt hgr rfl rfl rfl rfl); clear hgr; have qq0 := Bq.out.cell 0 rfl; have qq1 := Bq.out.cell 1 rfl; have qq2 := Bq.out.cell 2 rfl; have qq3 := Bq.out.cell 3 rfl)
    | (go_at_call 21; (with_reducible refine (timesynclaw31_in.calls q2 false _ HJ2.out).mono ?_); rintro e w4 ⟨rfl, hb⟩; have hgr := Grew.drawn0 hb; clear hb; clear qq0 qq1 qq2 qq3; replace Bq := Aside0.mk (hgr.blk Bq.out); replace Ba := Aside0.mk (hgr.blk Ba.out); replace GR := Aside0.mk (GR.out.nxt hgr rfl rfl rfl rfl); clear hgr; have qq0 := Bq.out.cell 0 rfl; have qq1 := Bq.out.cell 1 rfl; have qq2 := Bq.out.cell 2 rfl; have qq3 := Bq.out.cell 3 rfl)
    | (go_at_call 11; (with_reducible refine (awake_ok _).mono ?_); rintro e w5 ⟨rfl, hb⟩; have hgr := hb; clear hb; clear qq0 qq1 qq2 qq3; replace Bq := Aside0.mk (hgr.blk Bq.out); replace Ba := Aside0.mk (hgr.blk Ba.out); replace GR := Aside0.mk (GR.out.nxt hgr rfl rfl rfl rfl); clear hgr))
  go_ret
  exact ⟨rfl, GR.out⟩
set_option maxHeartbeats 2000000 in
set_option maxRecDepth 100000 in
theorem exchange_g3 (w : World) (nonce q1 q2 q3 q4 stratum : Int) (z0 : nonce ≠ 0) (hj1 : timesynclaw31_in.f q1 = some true) (hj2 : timesynclaw31_in.f q2 = some true) (hj3 : timesynclaw31_in.f q3 = some false)  : Calls Try.prog 5 #[.int .u64 nonce, .agg #[.int .i64 q1, .int .i64 q2, .int .i64 q3, .int .i64 q4], .int .i64 stratum] w fun e w' => e = .returned (.bool true) ∧ Grew w w' none := by
  have GR : Aside0 (Grew w w none) := Aside0.mk (Grew.refl w none)
  have z01 : (nonce == 0) = false := beq_eq_false_iff_ne.mpr z0
  have z02 : (nonce != 0) = true := bne_iff_ne.mpr z0
  have HJ1 := Aside0.mk hj1
  clear hj1
  have HJ2 := Aside0.mk hj2
  clear hj2
  have HJ3 := Aside0.mk hj3
  clear hj3
  clear z0
  go_enter Try.func5, Try.ntmps5
  go_wp2_with (first
    | ((with_reducible refine gate_dst (N := 4) rfl ?_); refine ev_box rfl (N := 4) rfl (cs := #[.int .i64 q1, .int .i64 q2, .int .i64 q3, .int .i64 q4]) (t := 38) ?hr ?_; (case hr => first | (go_simp; done) | (go_simp; rfl)); intro gq hle w1 hbox hgr; have Lq := Aside0.mk (GR.out.young hgr rfl hle); clear hle; have Bq := Aside0.mk hbox; clear hbox; replace GR := Aside0.mk (GR.out.nxt hgr rfl rfl rfl rfl); clear hgr)
    | (go_at_call 9; (with_reducible refine (newP_ok 4 (by decide) (by decide) _).mono ?_); rintro e w2 ⟨ga, rfl, hle, hbox, hgr⟩; have Nqa := Aside0.mk (hgr.apart Bq.out hle); have La := Aside0.mk (GR.out.young hgr rfl hle); clear hle; have Ba := Aside0.mk hbox; clear hbox; replace Bq := Aside0.mk (hgr.blk Bq.out); replace GR := Aside0.mk (GR.out.nxt hgr rfl rfl rfl rfl); clear hgr; have qq0 := Bq.out.cell 0 rfl; have qq1 := Bq.out.cell 1 rfl; have qq2 := Bq.out.cell 2 rfl; have qq3 := Bq.out.cell 3 rfl)
    | (go_at_call 21; (with_reducible refine (timesynclaw31_in.calls q1 true _ HJ1.out).mono ?_); rintro e w3 ⟨rfl, hb⟩; have hgr := Grew.drawn0 hb; clear hb; clear qq0 qq1 qq2 qq3; replace Bq := Aside0.mk (hgr.blk Bq.out); replace Ba := Aside0.mk (hgr.blk Ba.out); replace GR := Aside0.mk (GR.out.nxt hgr rfl rfl rfl rfl); clear hgr; have qq0 := Bq.out.cell 0 rfl; have qq1 := Bq.out.cell 1 rfl; have qq2 := Bq.out.cell 2 rfl; have qq3 := Bq.out.cell 3 rfl)
    | (go_at_call 21; (with_reducible refine (timesynclaw31_in.calls q2 true _ HJ2.out).mono ?_); rintro e w4 ⟨rfl, hb⟩; have hgr := Grew.drawn0 hb; clear hb; clear qq0 qq1 qq2 qq3; replace Bq := Aside0.mk (hgr.blk Bq.out); replace Ba := Aside0.mk (hgr.blk Ba.out); replace GR := Aside0.mk (GR.out.nxt hgr rfl rfl rfl rfl); clear hgr; have qq0 := Bq.out.cell 0 rfl; have qq1 := Bq.out.cell 1 rfl; have qq2 := Bq.out.cell 2 rfl; have qq3 := Bq.out.cell 3 rfl)
    | (go_at_call 21; (with_reducible refine (timesynclaw31_in.calls q3 false _ HJ3.out).mono ?_); rintro e w5 ⟨rfl, hb⟩; have hgr := Grew.drawn0 hb; clear hb; clear qq0 qq1 qq2 qq3; replace Bq := Aside0.mk (hgr.blk Bq.out); replace Ba := Aside0.mk (hgr.blk Ba.out); replace GR := Aside0.mk (GR.out.nxt hgr rfl rfl rfl rfl); clear hgr; have qq0 := Bq.out.cell 0 rfl; have qq1 := Bq.out.cell 1 rfl; have qq2 := Bq.out.cell 2 rfl; have qq3 := Bq.out.cell 3 rfl)
    | (go_at_call 11; (with_reducible refine (awake_ok _).mono ?_); rintro e w6 ⟨rfl, hb⟩; have hgr := hb; clear hb; clear qq0 qq1 qq2 qq3; replace Bq := Aside0.mk (hgr.blk Bq.out); replace Ba := Aside0.mk (hgr.blk Ba.out); replace GR := Aside0.mk (GR.out.nxt hgr rfl rfl rfl rfl); clear hgr))
  go_ret
  exact ⟨rfl, GR.out⟩
set_option maxHeartbeats 2000000 in
set_option maxRecDepth 100000 in
theorem exchange_g4 (w : World) (nonce q1 q2 q3 q4 stratum : Int) (z0 : nonce ≠ 0) (hj1 : timesynclaw31_in.f q1 = some true) (hj2 : timesynclaw31_in.f q2 = some true) (hj3 : timesynclaw31_in.f q3 = some true) (hj4 : timesynclaw31_in.f q4 = some false)  : Calls Try.prog 5 #[.int .u64 nonce, .agg #[.int .i64 q1, .int .i64 q2, .int .i64 q3, .int .i64 q4], .int .i64 stratum] w fun e w' => e = .returned (.bool true) ∧ Grew w w' none := by
  have GR : Aside0 (Grew w w none) := Aside0.mk (Grew.refl w none)
  have z01 : (nonce == 0) = false := beq_eq_false_iff_ne.mpr z0
  have z02 : (nonce != 0) = true := bne_iff_ne.mpr z0
  have HJ1 := Aside0.mk hj1
  clear hj1
  have HJ2 := Aside0.mk hj2
  clear hj2
  have HJ3 := Aside0.mk hj3
  clear hj3
  have HJ4 := Aside0.mk hj4
  clear hj4
  clear z0
  go_enter Try.func5, Try.ntmps5
  go_wp2_with (first
    | ((with_reducible refine gate_dst (N := 4) rfl ?_); refine ev_box rfl (N := 4) rfl (cs := #[.int .i64 q1, .int .i64 q2, .int .i64 q3, .int .i64 q4]) (t := 38) ?hr ?_; (case hr => first | (go_simp; done) | (go_simp; rfl)); intro gq hle w1 hbox hgr; have Lq := Aside0.mk (GR.out.young hgr rfl hle); clear hle; have Bq := Aside0.mk hbox; clear hbox; replace GR := Aside0.mk (GR.out.nxt hgr rfl rfl rfl rfl); clear hgr)
    | (go_at_call 9; (with_reducible refine (newP_ok 4 (by decide) (by decide) _).mono ?_); rintro e w2 ⟨ga, rfl, hle, hbox, hgr⟩; have Nqa := Aside0.mk (hgr.apart Bq.out hle); have La := Aside0.mk (GR.out.young hgr rfl hle); clear hle; have Ba := Aside0.mk hbox; clear hbox; replace Bq := Aside0.mk (hgr.blk Bq.out); replace GR := Aside0.mk (GR.out.nxt hgr rfl rfl rfl rfl); clear hgr; have qq0 := Bq.out.cell 0 rfl; have qq1 := Bq.out.cell 1 rfl; have qq2 := Bq.out.cell 2 rfl; have qq3 := Bq.out.cell 3 rfl)
    | (go_at_call 21; (with_reducible refine (timesynclaw31_in.calls q1 true _ HJ1.out).mono ?_); rintro e w3 ⟨rfl, hb⟩; have hgr := Grew.drawn0 hb; clear hb; clear qq0 qq1 qq2 qq3; replace Bq := Aside0.mk (hgr.blk Bq.out); replace Ba := Aside0.mk (hgr.blk Ba.out); replace GR := Aside0.mk (GR.out.nxt hgr rfl rfl rfl rfl); clear hgr; have qq0 := Bq.out.cell 0 rfl; have qq1 := Bq.out.cell 1 rfl; have qq2 := Bq.out.cell 2 rfl; have qq3 := Bq.out.cell 3 rfl)
    | (go_at_call 21; (with_reducible refine (timesynclaw31_in.calls q2 true _ HJ2.out).mono ?_); rintro e w4 ⟨rfl, hb⟩; have hgr := Grew.drawn0 hb; clear hb; clear qq0 qq1 qq2 qq3; replace Bq := Aside0.mk (hgr.blk Bq.out); replace Ba := Aside0.mk (hgr.blk Ba.out); replace GR := Aside0.mk (GR.out.nxt hgr rfl rfl rfl rfl); clear hgr; have qq0 := Bq.out.cell 0 rfl; have qq1 := Bq.out.cell 1 rfl; have qq2 := Bq.out.cell 2 rfl; have qq3 := Bq.out.cell 3 rfl)
    | (go_at_call 21; (with_reducible refine (timesynclaw31_in.calls q3 true _ HJ3.out).mono ?_); rintro e w5 ⟨rfl, hb⟩; have hgr := Grew.drawn0 hb; clear hb; clear qq0 qq1 qq2 qq3; replace Bq := Aside0.mk (hgr.blk Bq.out); replace Ba := Aside0.mk (hgr.blk Ba.out); replace GR := Aside0.mk (GR.out.nxt hgr rfl rfl rfl rfl); clear hgr; have qq0 := Bq.out.cell 0 rfl; have qq1 := Bq.out.cell 1 rfl; have qq2 := Bq.out.cell 2 rfl; have qq3 := Bq.out.cell 3 rfl)
    | (go_at_call 21; (with_reducible refine (timesynclaw31_in.calls q4 false _ HJ4.out).mono ?_); rintro e w6 ⟨rfl, hb⟩; have hgr := Grew.drawn0 hb; clear hb; clear qq0 qq1 qq2 qq3; replace Bq := Aside0.mk (hgr.blk Bq.out); replace Ba := Aside0.mk (hgr.blk Ba.out); replace GR := Aside0.mk (GR.out.nxt hgr rfl rfl rfl rfl); clear hgr; have qq0 := Bq.out.cell 0 rfl; have qq1 := Bq.out.cell 1 rfl; have qq2 := Bq.out.cell 2 rfl; have qq3 := Bq.out.cell 3 rfl)
    | (go_at_call 11; (with_reducible refine (awake_ok _).mono ?_); rintro e w7 ⟨rfl, hb⟩; have hgr := hb; clear hb; clear qq0 qq1 qq2 qq3; replace Bq := Aside0.mk (hgr.blk Bq.out); replace Ba := Aside0.mk (hgr.blk Ba.out); replace GR := Aside0.mk (GR.out.nxt hgr rfl rfl rfl rfl); clear hgr))
  go_ret
  exact ⟨rfl, GR.out⟩
set_option maxHeartbeats 2000000 in
set_option maxRecDepth 100000 in
theorem exchange_g5 (w : World) (nonce q1 q2 q3 q4 stratum : Int) (z0 : nonce ≠ 0) (hj1 : timesynclaw31_in.f q1 = some true) (hj2 : timesynclaw31_in.f q2 = some true) (hj3 : timesynclaw31_in.f q3 = some true) (hj4 : timesynclaw31_in.f q4 = some true) (z1 : q4 < q1)  : Calls Try.prog 5 #[.int .u64 nonce, .agg #[.int .i64 q1, .int .i64 q2, .int .i64 q3, .int .i64 q4], .int .i64 stratum] w fun e w' => e = .returned (.bool true) ∧ Grew w w' none := by
  have GR : Aside0 (Grew w w none) := Aside0.mk (Grew.refl w none)
  have z01 : (nonce == 0) = false := beq_eq_false_iff_ne.mpr z0
  have z02 : (nonce != 0) = true := bne_iff_ne.mpr z0
  have HJ1 := Aside0.mk hj1
  clear hj1
  have HJ2 := Aside0.mk hj2
  clear hj2
  have HJ3 := Aside0.mk hj3
  clear hj3
  have HJ4 := Aside0.mk hj4
  clear hj4
  have z11 : decide (q4 < q1) = true := decide_eq_true z1
  clear z0
  clear z1
  go_enter Try.func5, Try.ntmps5
  go_wp2_with (first
    | ((with_reducible refine gate_dst (N := 4) rfl ?_); refine ev_box rfl (N := 4) rfl (cs := #[.int .i64 q1, .int .i64 q2, .int .i64 q3, .int .i64 q4]) (t := 38) ?hr ?_; (case hr => first | (go_simp; done) | (go_simp; rfl)); intro gq hle w1 hbox hgr; have Lq := Aside0.mk (GR.out.young hgr rfl hle); clear hle; have Bq := Aside0.mk hbox; clear hbox; replace GR := Aside0.mk (GR.out.nxt hgr rfl rfl rfl rfl); clear hgr)
    | (go_at_call 9; (with_reducible refine (newP_ok 4 (by decide) (by decide) _).mono ?_); rintro e w2 ⟨ga, rfl, hle, hbox, hgr⟩; have Nqa := Aside0.mk (hgr.apart Bq.out hle); have La := Aside0.mk (GR.out.young hgr rfl hle); clear hle; have Ba := Aside0.mk hbox; clear hbox; replace Bq := Aside0.mk (hgr.blk Bq.out); replace GR := Aside0.mk (GR.out.nxt hgr rfl rfl rfl rfl); clear hgr; have qq0 := Bq.out.cell 0 rfl; have qq1 := Bq.out.cell 1 rfl; have qq2 := Bq.out.cell 2 rfl; have qq3 := Bq.out.cell 3 rfl)
    | (go_at_call 21; (with_reducible refine (timesynclaw31_in.calls q1 true _ HJ1.out).mono ?_); rintro e w3 ⟨rfl, hb⟩; have hgr := Grew.drawn0 hb; clear hb; clear qq0 qq1 qq2 qq3; replace Bq := Aside0.mk (hgr.blk Bq.out); replace Ba := Aside0.mk (hgr.blk Ba.out); replace GR := Aside0.mk (GR.out.nxt hgr rfl rfl rfl rfl); clear hgr; have qq0 := Bq.out.cell 0 rfl; have qq1 := Bq.out.cell 1 rfl; have qq2 := Bq.out.cell 2 rfl; have qq3 := Bq.out.cell 3 rfl)
    | (go_at_call 21; (with_reducible refine (timesynclaw31_in.calls q2 true _ HJ2.out).mono ?_); rintro e w4 ⟨rfl, hb⟩; have hgr := Grew.drawn0 hb; clear hb; clear qq0 qq1 qq2 qq3; replace Bq := Aside0.mk (hgr.blk Bq.out); replace Ba := Aside0.mk (hgr.blk Ba.out); replace GR := Aside0.mk (GR.out.nxt hgr rfl rfl rfl rfl); clear hgr; have qq0 := Bq.out.cell 0 rfl; have qq1 := Bq.out.cell 1 rfl; have qq2 := Bq.out.cell 2 rfl; have qq3 := Bq.out.cell 3 rfl)
    | (go_at_call 21; (with_reducible refine (timesynclaw31_in.calls q3 true _ HJ3.out).mono ?_); rintro e w5 ⟨rfl, hb⟩; have hgr := Grew.drawn0 hb; clear hb; clear qq0 qq1 qq2 qq3; replace Bq := Aside0.mk (hgr.blk Bq.out); replace Ba := Aside0.mk (hgr.blk Ba.out); replace GR := Aside0.mk (GR.out.nxt hgr rfl rfl rfl rfl); clear hgr; have qq0 := Bq.out.cell 0 rfl; have qq1 := Bq.out.cell 1 rfl; have qq2 := Bq.out.cell 2 rfl; have qq3 := Bq.out.cell 3 rfl)
    | (go_at_call 21; (with_reducible refine (timesynclaw31_in.calls q4 true _ HJ4.out).mono ?_); rintro e w6 ⟨rfl, hb⟩; have hgr := Grew.drawn0 hb; clear hb; clear qq0 qq1 qq2 qq3; replace Bq := Aside0.mk (hgr.blk Bq.out); replace Ba := Aside0.mk (hgr.blk Ba.out); replace GR := Aside0.mk (GR.out.nxt hgr rfl rfl rfl rfl); clear hgr; have qq0 := Bq.out.cell 0 rfl; have qq1 := Bq.out.cell 1 rfl; have qq2 := Bq.out.cell 2 rfl; have qq3 := Bq.out.cell 3 rfl)
    | (go_at_call 11; (with_reducible refine (awake_ok _).mono ?_); rintro e w7 ⟨rfl, hb⟩; have hgr := hb; clear hb; clear qq0 qq1 qq2 qq3; replace Bq := Aside0.mk (hgr.blk Bq.out); replace Ba := Aside0.mk (hgr.blk Ba.out); replace GR := Aside0.mk (GR.out.nxt hgr rfl rfl rfl rfl); clear hgr))
  go_ret
  exact ⟨rfl, GR.out⟩
set_option maxHeartbeats 2000000 in
set_option maxRecDepth 100000 in
theorem exchange_g6 (w : World) (nonce q1 q2 q3 q4 stratum : Int) (z0 : nonce ≠ 0) (hj1 : timesynclaw31_in.f q1 = some true) (hj2 : timesynclaw31_in.f q2 = some true) (hj3 : timesynclaw31_in.f q3 = some true) (hj4 : timesynclaw31_in.f q4 = some true) (z1 : ¬ q4 < q1) (z2 : q3 < q2)  : Calls Try.prog 5 #[.int .u64 nonce, .agg #[.int .i64 q1, .int .i64 q2, .int .i64 q3, .int .i64 q4], .int .i64 stratum] w fun e w' => e = .returned (.bool true) ∧ Grew w w' none := by
  have GR : Aside0 (Grew w w none) := Aside0.mk (Grew.refl w none)
  have z01 : (nonce == 0) = false := beq_eq_false_iff_ne.mpr z0
  have z02 : (nonce != 0) = true := bne_iff_ne.mpr z0
  have HJ1 := Aside0.mk hj1
  clear hj1
  have HJ2 := Aside0.mk hj2
  clear hj2
  have HJ3 := Aside0.mk hj3
  clear hj3
  have HJ4 := Aside0.mk hj4
  clear hj4
  have z11 : decide (q4 < q1) = false := decide_eq_false z1
  have z21 : decide (q3 < q2) = true := decide_eq_true z2
  clear z0
  clear z1
  clear z2
  go_enter Try.func5, Try.ntmps5
  go_wp2_with (first
    | ((with_reducible refine gate_dst (N := 4) rfl ?_); refine ev_box rfl (N := 4) rfl (cs := #[.int .i64 q1, .int .i64 q2, .int .i64 q3, .int .i64 q4]) (t := 38) ?hr ?_; (case hr => first | (go_simp; done) | (go_simp; rfl)); intro gq hle w1 hbox hgr; have Lq := Aside0.mk (GR.out.young hgr rfl hle); clear hle; have Bq := Aside0.mk hbox; clear hbox; replace GR := Aside0.mk (GR.out.nxt hgr rfl rfl rfl rfl); clear hgr)
    | (go_at_call 9; (with_reducible refine (newP_ok 4 (by decide) (by decide) _).mono ?_); rintro e w2 ⟨ga, rfl, hle, hbox, hgr⟩; have Nqa := Aside0.mk (hgr.apart Bq.out hle); have La := Aside0.mk (GR.out.young hgr rfl hle); clear hle; have Ba := Aside0.mk hbox; clear hbox; replace Bq := Aside0.mk (hgr.blk Bq.out); replace GR := Aside0.mk (GR.out.nxt hgr rfl rfl rfl rfl); clear hgr; have qq0 := Bq.out.cell 0 rfl; have qq1 := Bq.out.cell 1 rfl; have qq2 := Bq.out.cell 2 rfl; have qq3 := Bq.out.cell 3 rfl)
    | (go_at_call 21; (with_reducible refine (timesynclaw31_in.calls q1 true _ HJ1.out).mono ?_); rintro e w3 ⟨rfl, hb⟩; have hgr := Grew.drawn0 hb; clear hb; clear qq0 qq1 qq2 qq3; replace Bq := Aside0.mk (hgr.blk Bq.out); replace Ba := Aside0.mk (hgr.blk Ba.out); replace GR := Aside0.mk (GR.out.nxt hgr rfl rfl rfl rfl); clear hgr; have qq0 := Bq.out.cell 0 rfl; have qq1 := Bq.out.cell 1 rfl; have qq2 := Bq.out.cell 2 rfl; have qq3 := Bq.out.cell 3 rfl)
    | (go_at_call 21; (with_reducible refine (timesynclaw31_in.calls q2 true _ HJ2.out).mono ?_); rintro e w4 ⟨rfl, hb⟩; have hgr := Grew.drawn0 hb; clear hb; clear qq0 qq1 qq2 qq3; replace Bq := Aside0.mk (hgr.blk Bq.out); replace Ba := Aside0.mk (hgr.blk Ba.out); replace GR := Aside0.mk (GR.out.nxt hgr rfl rfl rfl rfl); clear hgr; have qq0 := Bq.out.cell 0 rfl; have qq1 := Bq.out.cell 1 rfl; have qq2 := Bq.out.cell 2 rfl; have qq3 := Bq.out.cell 3 rfl)
    | (go_at_call 21; (with_reducible refine (timesynclaw31_in.calls q3 true _ HJ3.out).mono ?_); rintro e w5 ⟨rfl, hb⟩; have hgr := Grew.drawn0 hb; clear hb; clear qq0 qq1 qq2 qq3; replace Bq := Aside0.mk (hgr.blk Bq.out); replace Ba := Aside0.mk (hgr.blk Ba.out); replace GR := Aside0.mk (GR.out.nxt hgr rfl rfl rfl rfl); clear hgr; have qq0 := Bq.out.cell 0 rfl; have qq1 := Bq.out.cell 1 rfl; have qq2 := Bq.out.cell 2 rfl; have qq3 := Bq.out.cell 3 rfl)
    | (go_at_call 21; (with_reducible refine (timesynclaw31_in.calls q4 true _ HJ4.out).mono ?_); rintro e w6 ⟨rfl, hb⟩; have hgr := Grew.drawn0 hb; clear hb; clear qq0 qq1 qq2 qq3; replace Bq := Aside0.mk (hgr.blk Bq.out); replace Ba := Aside0.mk (hgr.blk Ba.out); replace GR := Aside0.mk (GR.out.nxt hgr rfl rfl rfl rfl); clear hgr; have qq0 := Bq.out.cell 0 rfl; have qq1 := Bq.out.cell 1 rfl; have qq2 := Bq.out.cell 2 rfl; have qq3 := Bq.out.cell 3 rfl)
    | (go_at_call 11; (with_reducible refine (awake_ok _).mono ?_); rintro e w7 ⟨rfl, hb⟩; have hgr := hb; clear hb; clear qq0 qq1 qq2 qq3; replace Bq := Aside0.mk (hgr.blk Bq.out); replace Ba := Aside0.mk (hgr.blk Ba.out); replace GR := Aside0.mk (GR.out.nxt hgr rfl rfl rfl rfl); clear hgr))
  go_ret
  exact ⟨rfl, GR.out⟩
set_option maxHeartbeats 2000000 in
set_option maxRecDepth 100000 in
theorem exchange_g7 (w : World) (nonce q1 q2 q3 q4 stratum : Int) (z0 : nonce ≠ 0) (hj1 : timesynclaw31_in.f q1 = some true) (hj2 : timesynclaw31_in.f q2 = some true) (hj3 : timesynclaw31_in.f q3 = some true) (hj4 : timesynclaw31_in.f q4 = some true) (z1 : ¬ q4 < q1) (z2 : ¬ q3 < q2) (z3 : stratum < 1)  : Calls Try.prog 5 #[.int .u64 nonce, .agg #[.int .i64 q1, .int .i64 q2, .int .i64 q3, .int .i64 q4], .int .i64 stratum] w fun e w' => e = .returned (.bool true) ∧ Grew w w' none := by
  have GR : Aside0 (Grew w w none) := Aside0.mk (Grew.refl w none)
  have z01 : (nonce == 0) = false := beq_eq_false_iff_ne.mpr z0
  have z02 : (nonce != 0) = true := bne_iff_ne.mpr z0
  have HJ1 := Aside0.mk hj1
  clear hj1
  have HJ2 := Aside0.mk hj2
  clear hj2
  have HJ3 := Aside0.mk hj3
  clear hj3
  have HJ4 := Aside0.mk hj4
  clear hj4
  have z11 : decide (q4 < q1) = false := decide_eq_false z1
  have z21 : decide (q3 < q2) = false := decide_eq_false z2
  have z31 : decide (stratum < 1) = true := decide_eq_true z3
  clear z0
  clear z1
  clear z2
  clear z3
  go_enter Try.func5, Try.ntmps5
  go_wp2_with (first
    | ((with_reducible refine gate_dst (N := 4) rfl ?_); refine ev_box rfl (N := 4) rfl (cs := #[.int .i64 q1, .int .i64 q2, .int .i64 q3, .int .i64 q4]) (t := 38) ?hr ?_; (case hr => first | (go_simp; done) | (go_simp; rfl)); intro gq hle w1 hbox hgr; have Lq := Aside0.mk (GR.out.young hgr rfl hle); clear hle; have Bq := Aside0.mk hbox; clear hbox; replace GR := Aside0.mk (GR.out.nxt hgr rfl rfl rfl rfl); clear hgr)
    | (go_at_call 9; (with_reducible refine (newP_ok 4 (by decide) (by decide) _).mono ?_); rintro e w2 ⟨ga, rfl, hle, hbox, hgr⟩; have Nqa := Aside0.mk (hgr.apart Bq.out hle); have La := Aside0.mk (GR.out.young hgr rfl hle); clear hle; have Ba := Aside0.mk hbox; clear hbox; replace Bq := Aside0.mk (hgr.blk Bq.out); replace GR := Aside0.mk (GR.out.nxt hgr rfl rfl rfl rfl); clear hgr; have qq0 := Bq.out.cell 0 rfl; have qq1 := Bq.out.cell 1 rfl; have qq2 := Bq.out.cell 2 rfl; have qq3 := Bq.out.cell 3 rfl)
    | (go_at_call 21; (with_reducible refine (timesynclaw31_in.calls q1 true _ HJ1.out).mono ?_); rintro e w3 ⟨rfl, hb⟩; have hgr := Grew.drawn0 hb; clear hb; clear qq0 qq1 qq2 qq3; replace Bq := Aside0.mk (hgr.blk Bq.out); replace Ba := Aside0.mk (hgr.blk Ba.out); replace GR := Aside0.mk (GR.out.nxt hgr rfl rfl rfl rfl); clear hgr; have qq0 := Bq.out.cell 0 rfl; have qq1 := Bq.out.cell 1 rfl; have qq2 := Bq.out.cell 2 rfl; have qq3 := Bq.out.cell 3 rfl)
    | (go_at_call 21; (with_reducible refine (timesynclaw31_in.calls q2 true _ HJ2.out).mono ?_); rintro e w4 ⟨rfl, hb⟩; have hgr := Grew.drawn0 hb; clear hb; clear qq0 qq1 qq2 qq3; replace Bq := Aside0.mk (hgr.blk Bq.out); replace Ba := Aside0.mk (hgr.blk Ba.out); replace GR := Aside0.mk (GR.out.nxt hgr rfl rfl rfl rfl); clear hgr; have qq0 := Bq.out.cell 0 rfl; have qq1 := Bq.out.cell 1 rfl; have qq2 := Bq.out.cell 2 rfl; have qq3 := Bq.out.cell 3 rfl)
    | (go_at_call 21; (with_reducible refine (timesynclaw31_in.calls q3 true _ HJ3.out).mono ?_); rintro e w5 ⟨rfl, hb⟩; have hgr := Grew.drawn0 hb; clear hb; clear qq0 qq1 qq2 qq3; replace Bq := Aside0.mk (hgr.blk Bq.out); replace Ba := Aside0.mk (hgr.blk Ba.out); replace GR := Aside0.mk (GR.out.nxt hgr rfl rfl rfl rfl); clear hgr; have qq0 := Bq.out.cell 0 rfl; have qq1 := Bq.out.cell 1 rfl; have qq2 := Bq.out.cell 2 rfl; have qq3 := Bq.out.cell 3 rfl)
    | (go_at_call 21; (with_reducible refine (timesynclaw31_in.calls q4 true _ HJ4.out).mono ?_); rintro e w6 ⟨rfl, hb⟩; have hgr := Grew.drawn0 hb; clear hb; clear qq0 qq1 qq2 qq3; replace Bq := Aside0.mk (hgr.blk Bq.out); replace Ba := Aside0.mk (hgr.blk Ba.out); replace GR := Aside0.mk (GR.out.nxt hgr rfl rfl rfl rfl); clear hgr; have qq0 := Bq.out.cell 0 rfl; have qq1 := Bq.out.cell 1 rfl; have qq2 := Bq.out.cell 2 rfl; have qq3 := Bq.out.cell 3 rfl)
    | (go_at_call 11; (with_reducible refine (awake_ok _).mono ?_); rintro e w7 ⟨rfl, hb⟩; have hgr := hb; clear hb; clear qq0 qq1 qq2 qq3; replace Bq := Aside0.mk (hgr.blk Bq.out); replace Ba := Aside0.mk (hgr.blk Ba.out); replace GR := Aside0.mk (GR.out.nxt hgr rfl rfl rfl rfl); clear hgr))
  go_ret
  exact ⟨rfl, GR.out⟩
set_option maxHeartbeats 2000000 in
set_option maxRecDepth 100000 in
theorem exchange_g8 (w : World) (nonce q1 q2 q3 q4 stratum : Int) (z0 : nonce ≠ 0) (hj1 : timesynclaw31_in.f q1 = some true) (hj2 : timesynclaw31_in.f q2 = some true) (hj3 : timesynclaw31_in.f q3 = some true) (hj4 : timesynclaw31_in.f q4 = some true) (z1 : ¬ q4 < q1) (z2 : ¬ q3 < q2) (z3 : ¬ stratum < 1) (z4 : 15 < stratum)  : Calls Try.prog 5 #[.int .u64 nonce, .agg #[.int .i64 q1, .int .i64 q2, .int .i64 q3, .int .i64 q4], .int .i64 stratum] w fun e w' => e = .returned (.bool true) ∧ Grew w w' none := by
  have GR : Aside0 (Grew w w none) := Aside0.mk (Grew.refl w none)
  have z01 : (nonce == 0) = false := beq_eq_false_iff_ne.mpr z0
  have z02 : (nonce != 0) = true := bne_iff_ne.mpr z0
  have HJ1 := Aside0.mk hj1
  clear hj1
  have HJ2 := Aside0.mk hj2
  clear hj2
  have HJ3 := Aside0.mk hj3
  clear hj3
  have HJ4 := Aside0.mk hj4
  clear hj4
  have z11 : decide (q4 < q1) = false := decide_eq_false z1
  have z21 : decide (q3 < q2) = false := decide_eq_false z2
  have z31 : decide (stratum < 1) = false := decide_eq_false z3
  have z41 : decide (15 < stratum) = true := decide_eq_true z4
  clear z0
  clear z1
  clear z2
  clear z3
  clear z4
  go_enter Try.func5, Try.ntmps5
  go_wp2_with (first
    | ((with_reducible refine gate_dst (N := 4) rfl ?_); refine ev_box rfl (N := 4) rfl (cs := #[.int .i64 q1, .int .i64 q2, .int .i64 q3, .int .i64 q4]) (t := 38) ?hr ?_; (case hr => first | (go_simp; done) | (go_simp; rfl)); intro gq hle w1 hbox hgr; have Lq := Aside0.mk (GR.out.young hgr rfl hle); clear hle; have Bq := Aside0.mk hbox; clear hbox; replace GR := Aside0.mk (GR.out.nxt hgr rfl rfl rfl rfl); clear hgr)
    | (go_at_call 9; (with_reducible refine (newP_ok 4 (by decide) (by decide) _).mono ?_); rintro e w2 ⟨ga, rfl, hle, hbox, hgr⟩; have Nqa := Aside0.mk (hgr.apart Bq.out hle); have La := Aside0.mk (GR.out.young hgr rfl hle); clear hle; have Ba := Aside0.mk hbox; clear hbox; replace Bq := Aside0.mk (hgr.blk Bq.out); replace GR := Aside0.mk (GR.out.nxt hgr rfl rfl rfl rfl); clear hgr; have qq0 := Bq.out.cell 0 rfl; have qq1 := Bq.out.cell 1 rfl; have qq2 := Bq.out.cell 2 rfl; have qq3 := Bq.out.cell 3 rfl)
    | (go_at_call 21; (with_reducible refine (timesynclaw31_in.calls q1 true _ HJ1.out).mono ?_); rintro e w3 ⟨rfl, hb⟩; have hgr := Grew.drawn0 hb; clear hb; clear qq0 qq1 qq2 qq3; replace Bq := Aside0.mk (hgr.blk Bq.out); replace Ba := Aside0.mk (hgr.blk Ba.out); replace GR := Aside0.mk (GR.out.nxt hgr rfl rfl rfl rfl); clear hgr; have qq0 := Bq.out.cell 0 rfl; have qq1 := Bq.out.cell 1 rfl; have qq2 := Bq.out.cell 2 rfl; have qq3 := Bq.out.cell 3 rfl)
    | (go_at_call 21; (with_reducible refine (timesynclaw31_in.calls q2 true _ HJ2.out).mono ?_); rintro e w4 ⟨rfl, hb⟩; have hgr := Grew.drawn0 hb; clear hb; clear qq0 qq1 qq2 qq3; replace Bq := Aside0.mk (hgr.blk Bq.out); replace Ba := Aside0.mk (hgr.blk Ba.out); replace GR := Aside0.mk (GR.out.nxt hgr rfl rfl rfl rfl); clear hgr; have qq0 := Bq.out.cell 0 rfl; have qq1 := Bq.out.cell 1 rfl; have qq2 := Bq.out.cell 2 rfl; have qq3 := Bq.out.cell 3 rfl)
    | (go_at_call 21; (with_reducible refine (timesynclaw31_in.calls q3 true _ HJ3.out).mono ?_); rintro e w5 ⟨rfl, hb⟩; have hgr := Grew.drawn0 hb; clear hb; clear qq0 qq1 qq2 qq3; replace Bq := Aside0.mk (hgr.blk Bq.out); replace Ba := Aside0.mk (hgr.blk Ba.out); replace GR := Aside0.mk (GR.out.nxt hgr rfl rfl rfl rfl); clear hgr; have qq0 := Bq.out.cell 0 rfl; have qq1 := Bq.out.cell 1 rfl; have qq2 := Bq.out.cell 2 rfl; have qq3 := Bq.out.cell 3 rfl)
    | (go_at_call 21; (with_reducible refine (timesynclaw31_in.calls q4 true _ HJ4.out).mono ?_); rintro e w6 ⟨rfl, hb⟩; have hgr := Grew.drawn0 hb; clear hb; clear qq0 qq1 qq2 qq3; replace Bq := Aside0.mk (hgr.blk Bq.out); replace Ba := Aside0.mk (hgr.blk Ba.out); replace GR := Aside0.mk (GR.out.nxt hgr rfl rfl rfl rfl); clear hgr; have qq0 := Bq.out.cell 0 rfl; have qq1 := Bq.out.cell 1 rfl; have qq2 := Bq.out.cell 2 rfl; have qq3 := Bq.out.cell 3 rfl)
    | (go_at_call 11; (with_reducible refine (awake_ok _).mono ?_); rintro e w7 ⟨rfl, hb⟩; have hgr := hb; clear hb; clear qq0 qq1 qq2 qq3; replace Bq := Aside0.mk (hgr.blk Bq.out); replace Ba := Aside0.mk (hgr.blk Ba.out); replace GR := Aside0.mk (GR.out.nxt hgr rfl rfl rfl rfl); clear hgr))
  go_ret
  exact ⟨rfl, GR.out⟩
set_option maxHeartbeats 2000000 in
set_option maxRecDepth 100000 in
theorem exchange_ok (w : World) (nonce q1 q2 q3 q4 stratum : Int) (x1 x2 : S) (u2 u3 : Int) (z0 : nonce ≠ 0) (hj1 : timesynclaw31_in.f q1 = some true) (hj2 : timesynclaw31_in.f q2 = some true) (hj3 : timesynclaw31_in.f q3 = some true) (hj4 : timesynclaw31_in.f q4 = some true) (z1 : ¬ q4 < q1) (z2 : ¬ q3 < q2) (z3 : ¬ stratum < 1) (z4 : ¬ 15 < stratum) (hs1 : ∀ g W, Blk W g 57 (⟨4, 0, 0, false, 0, 0, 0, 0, 0, 0, 0, 0, 0⟩ : S).cP → Calls Try.prog 12 #[.pointer (some ⟨g, 0, none⟩), .int .i64 q1, .int .u64 nonce] W fun e w' => e = .returned (.tuple #[.agg #[.int .i64 0, .int .i64 4, .int .i64 3, .int .i64 0, .int .i64 0, .int .i64 0, .int .u32 0, .int .u32 0, .int .u32 0, .int .u64 0, .int .u64 0, .int .u64 0, .int .u64 nonce], .int .i64 0]) ∧ Blk w' g 57 x1.cP ∧ Grew W w' (some g)) (hr1 : ∀ g W, Blk W g 57 x1.cP → Calls Try.prog 14 #[.pointer (some ⟨g, 0, none⟩), .agg #[.int .i64 0, .int .i64 4, .int .i64 4, .int .i64 stratum, .int .i64 0, .int .i64 0, .int .u32 0, .int .u32 0, .int .u32 0, .int .u64 0, .int .u64 nonce, .int .u64 u2, .int .u64 u3], .int .i64 q4] W fun e w' => e = .returned (.agg #[.int .i64 7, .string ⟨#[]⟩, .int .i64 q1, .int .i64 q2, .int .i64 q3, .int .i64 q4]) ∧ Blk w' g 57 x2.cP ∧ Grew W w' (some g)) (ho2 : stamp_Of.f 40 (3900000000000000000 + q2) = some u2) (ho3 : stamp_Of.f 40 (3900000000000000000 + q3) = some u3) (e2 : IntKind.i64.wrap (3900000000000000000 + q2) = 3900000000000000000 + q2) (e3 : IntKind.i64.wrap (3900000000000000000 + q3) = 3900000000000000000 + q3) (hp : x2.cP[3]? = some (.bool false)) : Calls Try.prog 5 #[.int .u64 nonce, .agg #[.int .i64 q1, .int .i64 q2, .int .i64 q3, .int .i64 q4], .int .i64 stratum] w fun e w' => e = .returned (.bool true) ∧ Grew w w' none := by
  have GR : Aside0 (Grew w w none) := Aside0.mk (Grew.refl w none)
  have z01 : (nonce == 0) = false := beq_eq_false_iff_ne.mpr z0
  have z02 : (nonce != 0) = true := bne_iff_ne.mpr z0
  have HJ1 := Aside0.mk hj1
  clear hj1
  have HJ2 := Aside0.mk hj2
  clear hj2
  have HJ3 := Aside0.mk hj3
  clear hj3
  have HJ4 := Aside0.mk hj4
  clear hj4
  have z11 : decide (q4 < q1) = false := decide_eq_false z1
  have z21 : decide (q3 < q2) = false := decide_eq_false z2
  have z31 : decide (stratum < 1) = false := decide_eq_false z3
  have z41 : decide (15 < stratum) = false := decide_eq_false z4
  clear z0
  clear z1
  clear z2
  clear z3
  clear z4
  have HS1 := Aside0.mk hs1
  clear hs1
  have HR1 := Aside0.mk hr1
  clear hr1
  have HO2 := Aside0.mk ho2
  clear ho2
  have HO3 := Aside0.mk ho3
  clear ho3
  have HP := Aside0.mk hp
  clear hp
  go_enter Try.func5, Try.ntmps5
  go_wp2_with (first
    | ((with_reducible refine gate_dst (N := 4) rfl ?_); refine ev_box rfl (N := 4) rfl (cs := #[.int .i64 q1, .int .i64 q2, .int .i64 q3, .int .i64 q4]) (t := 38) ?hr ?_; (case hr => first | (go_simp; done) | (go_simp; rfl)); intro gq hle w1 hbox hgr; have Lq := Aside0.mk (GR.out.young hgr rfl hle); clear hle; have Bq := Aside0.mk hbox; clear hbox; replace GR := Aside0.mk (GR.out.nxt hgr rfl rfl rfl rfl); clear hgr)
    | (go_at_call 9; (with_reducible refine (newP_ok 4 (by decide) (by decide) _).mono ?_); rintro e w2 ⟨ga, rfl, hle, hbox, hgr⟩; have Nqa := Aside0.mk (hgr.apart Bq.out hle); have La := Aside0.mk (GR.out.young hgr rfl hle); clear hle; have Ba := Aside0.mk hbox; clear hbox; replace Bq := Aside0.mk (hgr.blk Bq.out); replace GR := Aside0.mk (GR.out.nxt hgr rfl rfl rfl rfl); clear hgr; have qq0 := Bq.out.cell 0 rfl; have qq1 := Bq.out.cell 1 rfl; have qq2 := Bq.out.cell 2 rfl; have qq3 := Bq.out.cell 3 rfl)
    | (go_at_call 21; (with_reducible refine (timesynclaw31_in.calls q1 true _ HJ1.out).mono ?_); rintro e w3 ⟨rfl, hb⟩; have hgr := Grew.drawn0 hb; clear hb; clear qq0 qq1 qq2 qq3; replace Bq := Aside0.mk (hgr.blk Bq.out); replace Ba := Aside0.mk (hgr.blk Ba.out); replace GR := Aside0.mk (GR.out.nxt hgr rfl rfl rfl rfl); clear hgr; have qq0 := Bq.out.cell 0 rfl; have qq1 := Bq.out.cell 1 rfl; have qq2 := Bq.out.cell 2 rfl; have qq3 := Bq.out.cell 3 rfl)
    | (go_at_call 21; (with_reducible refine (timesynclaw31_in.calls q2 true _ HJ2.out).mono ?_); rintro e w4 ⟨rfl, hb⟩; have hgr := Grew.drawn0 hb; clear hb; clear qq0 qq1 qq2 qq3; replace Bq := Aside0.mk (hgr.blk Bq.out); replace Ba := Aside0.mk (hgr.blk Ba.out); replace GR := Aside0.mk (GR.out.nxt hgr rfl rfl rfl rfl); clear hgr; have qq0 := Bq.out.cell 0 rfl; have qq1 := Bq.out.cell 1 rfl; have qq2 := Bq.out.cell 2 rfl; have qq3 := Bq.out.cell 3 rfl)
    | (go_at_call 21; (with_reducible refine (timesynclaw31_in.calls q3 true _ HJ3.out).mono ?_); rintro e w5 ⟨rfl, hb⟩; have hgr := Grew.drawn0 hb; clear hb; clear qq0 qq1 qq2 qq3; replace Bq := Aside0.mk (hgr.blk Bq.out); replace Ba := Aside0.mk (hgr.blk Ba.out); replace GR := Aside0.mk (GR.out.nxt hgr rfl rfl rfl rfl); clear hgr; have qq0 := Bq.out.cell 0 rfl; have qq1 := Bq.out.cell 1 rfl; have qq2 := Bq.out.cell 2 rfl; have qq3 := Bq.out.cell 3 rfl)
    | (go_at_call 21; (with_reducible refine (timesynclaw31_in.calls q4 true _ HJ4.out).mono ?_); rintro e w6 ⟨rfl, hb⟩; have hgr := Grew.drawn0 hb; clear hb; clear qq0 qq1 qq2 qq3; replace Bq := Aside0.mk (hgr.blk Bq.out); replace Ba := Aside0.mk (hgr.blk Ba.out); replace GR := Aside0.mk (GR.out.nxt hgr rfl rfl rfl rfl); clear hgr; have qq0 := Bq.out.cell 0 rfl; have qq1 := Bq.out.cell 1 rfl; have qq2 := Bq.out.cell 2 rfl; have qq3 := Bq.out.cell 3 rfl)
    | (go_at_call 12; (with_reducible refine (HS1.out ga _ Ba.out).mono ?_); rintro e w7 ⟨rfl, hbox, hgr⟩; clear qq0 qq1 qq2 qq3; clear Ba; have Ba := Aside0.mk hbox; clear hbox; replace Bq := Aside0.mk (hgr.blkFar Bq.out Nqa.out); replace GR := Aside0.mk (GR.out.nxtOwn hgr La.out rfl rfl rfl rfl); clear hgr)
    | ((with_reducible refine gate_dst (N := 8) rfl ?_); refine ev_box rfl (N := 8) rfl (cs := #[.int .i64 0, .int .i64 0, .int .i64 0, .int .i64 0, .int .i64 0, .int .i64 0, .int .u32 0, .int .u32 0, .int .u32 0, .int .u64 0, .int .u64 0, .int .u64 0, .int .u64 0]) (t := 31) ?hr ?_; (case hr => first | (go_simp; done) | (go_simp; rfl)); intro gu hle w8 hbox hgr; have Nqu := Aside0.mk (hgr.apart Bq.out hle); have Nau := Aside0.mk (hgr.apart Ba.out hle); have Lu := Aside0.mk (GR.out.young hgr rfl hle); clear hle; have Bu := Aside0.mk hbox; clear hbox; replace Bq := Aside0.mk (hgr.blk Bq.out); replace Ba := Aside0.mk (hgr.blk Ba.out); replace GR := Aside0.mk (GR.out.nxt hgr rfl rfl rfl rfl); clear hgr)
    | ((with_reducible refine gate_store (t := 31) (p := 8) (v := .tmp 69) rfl ?_); refine ev_store rfl rfl 31 (.tmp 8) (.tmp 69) rfl (g := gu) (t := 31) (old := ?_) #[.int .i64 0, .int .i64 4, .int .i64 3, .int .i64 0, .int .i64 0, .int .i64 0, .int .u32 0, .int .u32 0, .int .u32 0, .int .u64 0, .int .u64 0, .int .u64 0, .int .u64 nonce] ?hx ?hy ?hb ?hi ?ho ?h1 ?_; (case hx => rfl); (case hy => first | rfl | (go_simp; done) | (go_simp; rfl)); (case hb => exact Bu.out); (case hi => kernel_rfl); (case ho => rfl); (case h1 => simp [Value.oneCell']); intro w9 hbox hgr; clear Bu; have Bu := Aside0.mk hbox; clear hbox; replace Bq := Aside0.mk (hgr.blkFar Bq.out Nqu.out); replace Ba := Aside0.mk (hgr.blkFar Ba.out Nau.out); replace GR := Aside0.mk (GR.out.nxtOwn hgr Lu.out rfl rfl rfl rfl); clear hgr; have qq0 := Bq.out.cell 0 rfl; have qq1 := Bq.out.cell 1 rfl; have qq2 := Bq.out.cell 2 rfl; have qq3 := Bq.out.cell 3 rfl))
  have BA := Ba.out
  go_region_held3 (fun w' => w'.cell? ⟨gq, 0, none⟩ = some (.int .i64 q1) ∧ w'.cell? ⟨gq, 1, none⟩ = some (.int .i64 q2) ∧ w'.cell? ⟨gq, 2, none⟩ = some (.int .i64 q3) ∧ w'.cell? ⟨gq, 3, none⟩ = some (.int .i64 q4)) (first | (with_reducible exact ⟨qq0, qq1, qq2, qq3⟩) | (with_reducible exact ⟨(hq).cell 0 rfl, (hq).cell 1 rfl, (hq).cell 2 rfl, (hq).cell 3 rfl⟩) | (with_reducible exact ⟨(blk_old hq _).cell 0 rfl, (blk_old hq _).cell 1 rfl, (blk_old hq _).cell 2 rfl, (blk_old hq _).cell 3 rfl⟩) | go_keep | (have hn := Nat.ne_of_lt (Blk.lt (w := w9) Bq.out); (with_reducible exact ⟨(blk_set (blk_set (blk_set (blk_set (blk_set (blk_set (hq) _ _ hn) _ _ hn) _ _ hn) _ _ hn) _ _ hn) _ _ hn).cell 0 rfl, (blk_set (blk_set (blk_set (blk_set (blk_set (blk_set (hq) _ _ hn) _ _ hn) _ _ hn) _ _ hn) _ _ hn) _ _ hn).cell 1 rfl, (blk_set (blk_set (blk_set (blk_set (blk_set (blk_set (hq) _ _ hn) _ _ hn) _ _ hn) _ _ hn) _ _ hn) _ _ hn).cell 2 rfl, (blk_set (blk_set (blk_set (blk_set (blk_set (blk_set (hq) _ _ hn) _ _ hn) _ _ hn) _ _ hn) _ _ hn) _ _ hn).cell 3 rfl⟩))) (first | (go_at_call 22; (with_reducible refine (stamp_Of.calls 40 (3900000000000000000 + q2) u2 _ HO2.out).mono ?_); rintro e w_ ⟨rfl, ⟨nd, rfl⟩⟩) | (go_at_call 22; (with_reducible refine (stamp_Of.calls 40 (3900000000000000000 + q3) u3 _ HO3.out).mono ?_); rintro e w_ ⟨rfl, ⟨nd, rfl⟩⟩) | (go_at_call 14; (first | (with_reducible refine (HR1.out ga _ Ba.out).mono ?_) | (with_reducible refine (HR1.out ga _ (blk_drawn Ba.out _)).mono ?_) | (with_reducible refine (HR1.out ga _ (blk_old Ba.out _)).mono ?_) | (with_reducible refine (HR1.out ga _ (blk_drawn (blk_old Ba.out _) _)).mono ?_) | (with_reducible refine (HR1.out ga _ (blk_old (blk_drawn Ba.out _) _)).mono ?_) | (refine (HR1.out ga _ (by first | exact Ba.out | exact blk_old Ba.out _)).mono ?_)); rintro e w2 ⟨rfl, hbox, hgr⟩; have hq := hgr.blkFar (by first | exact Bq.out | exact blk_old Bq.out _) Nqa.out; (try (have hx : Blk w2 w9.heap.size 40 #[.int .i64 0, .string ⟨#[]⟩, .int .i64 0, .int .i64 0, .int .i64 0, .int .i64 0] := hgr.blkFar (by exact blk_new w9 _) (Nat.ne_of_gt Ba.out.lt); have cx0 := hx.cell 0 rfl; have fx0 := hx.frozen 0; have cx1 := hx.cell 1 rfl; have fx1 := hx.frozen 1; have cx2 := hx.cell 2 rfl; have fx2 := hx.frozen 2; have cx3 := hx.cell 3 rfl; have fx3 := hx.frozen 3; have cx4 := hx.cell 4 rfl; have fx4 := hx.frozen 4; have cx5 := hx.cell 5 rfl; have fx5 := hx.frozen 5))))
  all_goals first
    | (have hbh : Blk (w2.alloc (.cells #[.int .i64 7, .string ⟨#[]⟩, .int .i64 q1, .int .i64 q2, .int .i64 q3, .int .i64 q4] 40 (0, 0))) w2.heap.size 40 #[.int .i64 7, .string ⟨#[]⟩, .int .i64 q1, .int .i64 q2, .int .i64 q3, .int .i64 q4] := blk_new w2 _; have hba := blk_old hbox (.cells #[.int .i64 7, .string ⟨#[]⟩, .int .i64 q1, .int .i64 q2, .int .i64 q3, .int .i64 q4] 40 (0, 0)); have hbq := blk_old hq (.cells #[.int .i64 7, .string ⟨#[]⟩, .int .i64 q1, .int .i64 q2, .int .i64 q3, .int .i64 q4] 40 (0, 0)); have hgg : Grew w (w2.alloc (.cells #[.int .i64 7, .string ⟨#[]⟩, .int .i64 q1, .int .i64 q2, .int .i64 q3, .int .i64 q4] 40 (0, 0))) none := (GR.out.nxtOwn hgr La.out rfl rfl rfl rfl).then_none (Grew.below (below_alloc (Below.refl _ _) _)); generalize w2.alloc (.cells #[.int .i64 7, .string ⟨#[]⟩, .int .i64 q1, .int .i64 q2, .int .i64 q3, .int .i64 q4] 40 (0, 0)) = wz at hbh hba hbq hgg ⊢; generalize w2.heap.size = gh at hbh ⊢)
    | (have hn := Nat.ne_of_lt (Blk.lt (w := w9) Bq.out); have hm := Nat.ne_of_lt (Blk.lt (w := w9) Ba.out); have hge : w.heap.size ≤ w9.heap.size := GR.out.size; have h1 : Grew w (w9.alloc (.cells #[.int .i64 0, .string ⟨#[]⟩, .int .i64 0, .int .i64 0, .int .i64 0, .int .i64 0] 40 (0, 0))) none := GR.out.then_none (Grew.below (below_alloc (Below.refl _ _) _)); have hbh : Blk ((((((w2.setCell ⟨w9.heap.size, 0, none⟩ (.int .i64 7)).setCell ⟨w9.heap.size, 1, none⟩ (.string ⟨#[]⟩)).setCell ⟨w9.heap.size, 2, none⟩ (.int .i64 q1)).setCell ⟨w9.heap.size, 3, none⟩ (.int .i64 q2)).setCell ⟨w9.heap.size, 4, none⟩ (.int .i64 q3)).setCell ⟨w9.heap.size, 5, none⟩ (.int .i64 q4)) w9.heap.size 40 #[.int .i64 7, .string ⟨#[]⟩, .int .i64 q1, .int .i64 q2, .int .i64 q3, .int .i64 q4] := (Blk.put (Blk.put (Blk.put (Blk.put (Blk.put (Blk.put hx 0 (.int .i64 7) rfl) 1 (.string ⟨#[]⟩) rfl) 2 (.int .i64 q1) rfl) 3 (.int .i64 q2) rfl) 4 (.int .i64 q3) rfl) 5 (.int .i64 q4) rfl); have hba := (blk_set (blk_set (blk_set (blk_set (blk_set (blk_set hbox 0 (.int .i64 7) hm) 1 (.string ⟨#[]⟩) hm) 2 (.int .i64 q1) hm) 3 (.int .i64 q2) hm) 4 (.int .i64 q3) hm) 5 (.int .i64 q4) hm); have hbq := (blk_set (blk_set (blk_set (blk_set (blk_set (blk_set hq 0 (.int .i64 7) hn) 1 (.string ⟨#[]⟩) hn) 2 (.int .i64 q1) hn) 3 (.int .i64 q2) hn) 4 (.int .i64 q3) hn) 5 (.int .i64 q4) hn); have hgg : Grew w ((((((w2.setCell ⟨w9.heap.size, 0, none⟩ (.int .i64 7)).setCell ⟨w9.heap.size, 1, none⟩ (.string ⟨#[]⟩)).setCell ⟨w9.heap.size, 2, none⟩ (.int .i64 q1)).setCell ⟨w9.heap.size, 3, none⟩ (.int .i64 q2)).setCell ⟨w9.heap.size, 4, none⟩ (.int .i64 q3)).setCell ⟨w9.heap.size, 5, none⟩ (.int .i64 q4)) none := (((((((h1.nxtOwn hgr La.out rfl rfl rfl rfl).then_own (grew_setCell _ _ _ _) hge).then_own (grew_setCell _ _ _ _) hge).then_own (grew_setCell _ _ _ _) hge).then_own (grew_setCell _ _ _ _) hge).then_own (grew_setCell _ _ _ _) hge).then_own (grew_setCell _ _ _ _) hge); generalize ((((((w2.setCell ⟨w9.heap.size, 0, none⟩ (.int .i64 7)).setCell ⟨w9.heap.size, 1, none⟩ (.string ⟨#[]⟩)).setCell ⟨w9.heap.size, 2, none⟩ (.int .i64 q1)).setCell ⟨w9.heap.size, 3, none⟩ (.int .i64 q2)).setCell ⟨w9.heap.size, 4, none⟩ (.int .i64 q3)).setCell ⟨w9.heap.size, 5, none⟩ (.int .i64 q4)) = wz at hbh hba hbq hgg ⊢; generalize w9.heap.size = gh at hbh ⊢)
  all_goals (clear hq hgr hbox; have y0 := hbh.cell 0 rfl; have y1 := hbh.cell 1 rfl; have y2 := hbh.cell 2 rfl; have y3 := hbh.cell 3 rfl; have y4 := hbh.cell 4 rfl; have y5 := hbh.cell 5 rfl; have z0 := hbq.cell 0 rfl; have z1 := hbq.cell 1 rfl; have z2 := hbq.cell 2 rfl; have z3 := hbq.cell 3 rfl; go_wp2_with (first | (go_at_call 18; (with_reducible refine (pendP_eq ga false _ x2.cP hba HP.out).mono ?_); rintro e w_ ⟨rfl, rfl⟩) | (go_at_call 11; (with_reducible refine (awake_ok _).mono ?_); rintro e w3 ⟨rfl, hg3⟩)))
  all_goals go_ret
  all_goals exact ⟨rfl, hgg.nxt hg3 rfl rfl rfl rfl⟩

end Go.Proofs.Ytohjmfjdopffkaa.As
