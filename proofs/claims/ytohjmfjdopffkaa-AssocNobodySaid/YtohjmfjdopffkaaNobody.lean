/- AssocNobody: the walk: a nil association sends nothing and hears nothing. -/
import Derived.Test.YtohjmfjdopffkaaOb
import Derived.Test.YtohjmfjdopffkaaAwake
import Derived.Test.YtohjmfjdopffkaaAsOpen
import Derived.WalkSpells
import Derived.Deep.QuietTactic
import Derived.BigQuiet
namespace Go.Proofs.Ytohjmfjdopffkaa.As
open Go Go.RowKit Go.Proofs.YtohjmfjdopffkaaW.PrintWords Go.Proofs.YtohjmfjdopffkaaW.PrintLast Go.Proofs.YtohjmfjdopffkaaW.PrintMore Go.Proofs.Ytohjmfjdopffkaa.PAs Go.Proofs.Ytohjmfjdopffkaa.AsP Go.Proofs.Ytohjmfjdopffkaa.Ob
attribute [local go_sem] max2_int min2_int max_two min_two max_three min_three max_four min_four
set_option linter.unusedVariables false
set_option linter.unusedSimpArgs false
set_option maxHeartbeats 2000000 in
set_option maxRecDepth 100000 in
theorem recvP_nil (w : World) (now : Int) (p0 p1 p2 p3 p4 p5 p6 p7 p8 p9 p10 p11 p12 : Int) : Calls Try.prog 14 #[.pointer none, .agg #[.int .i64 p0, .int .i64 p1, .int .i64 p2, .int .i64 p3, .int .i64 p4, .int .i64 p5, .int .u32 p6, .int .u32 p7, .int .u32 p8, .int .u64 p9, .int .u64 p10, .int .u64 p11, .int .u64 p12], .int .i64 now] w fun e w' => e = .returned (.agg #[.int .i64 0, .string ⟨#[]⟩, .int .i64 0, .int .i64 0, .int .i64 0, .int .i64 0]) ∧ Grew w w' none := by
  have GR : Aside0 (Grew w w none) := Aside0.mk (Grew.refl w none)
  go_enter Try.func14, Try.ntmps14
  go_wp2_with (first
    | ((with_reducible refine gate_dst (N := 4) rfl ?_); refine ev_box rfl (N := 4) rfl (cs := #[.int .i64 p0, .int .i64 p1, .int .i64 p2, .int .i64 p3, .int .i64 p4, .int .i64 p5, .int .u32 p6, .int .u32 p7, .int .u32 p8, .int .u64 p9, .int .u64 p10, .int .u64 p11, .int .u64 p12]) (t := 31) ?hr ?_; (case hr => first | (go_simp; done) | (go_simp; rfl)); intro gp hle w1 hbox hgr; have Lp := Aside0.mk (GR.out.young hgr rfl hle); clear hle; have Bp := Aside0.mk hbox; clear hbox; replace GR := Aside0.mk (GR.out.nxt hgr rfl rfl rfl rfl); clear hgr)
    | ((with_reducible refine gate_dst (N := 6) rfl ?_); refine ev_box rfl (N := 6) rfl (cs := #[.int .i64 0, .string ⟨#[]⟩, .int .i64 0, .int .i64 0, .int .i64 0, .int .i64 0]) (t := 40) ?hr ?_; (case hr => first | (go_simp; done) | (go_simp; rfl)); intro gr hle w2 hbox hgr; have Npr := Aside0.mk (hgr.apart Bp.out hle); have Lr := Aside0.mk (GR.out.young hgr rfl hle); clear hle; have Br := Aside0.mk hbox; clear hbox; replace Bp := Aside0.mk (hgr.blk Bp.out); replace GR := Aside0.mk (GR.out.nxt hgr rfl rfl rfl rfl); clear hgr)
    | ((with_reducible refine gate_store (t := 40) (p := 6) (v := .tmp 10) rfl ?_); refine ev_store rfl rfl 40 (.tmp 6) (.tmp 10) rfl (g := gr) (t := 40) (old := ?_) #[.int .i64 0, .string ⟨#[]⟩, .int .i64 0, .int .i64 0, .int .i64 0, .int .i64 0] ?hx ?hy ?hb ?hi ?ho ?h1 ?_; (case hx => rfl); (case hy => first | rfl | (go_simp; done) | (go_simp; rfl)); (case hb => exact Br.out); (case hi => kernel_rfl); (case ho => rfl); (case h1 => simp [Value.oneCell']); intro w3 hbox hgr; clear Br; have Br := Aside0.mk hbox; clear hbox; replace Bp := Aside0.mk (hgr.blkFar Bp.out Npr.out); replace GR := Aside0.mk (GR.out.nxtOwn hgr Lr.out rfl rfl rfl rfl); clear hgr))
  refine bodyPost_ret (results_cell_row rfl _ _ gr 40 #[.int .i64 0, .string ⟨#[]⟩, .int .i64 0, .int .i64 0, .int .i64 0, .int .i64 0] (0, 0) _ rfl Br.out Try.underlying40 rfl (by kernel_rfl)) rfl ?_
  exact ⟨rfl, GR.out⟩
set_option maxHeartbeats 2000000 in
set_option maxRecDepth 100000 in
theorem nobody_ok (w : World) (kd now nonce : Int) (p0 p1 p2 p3 p4 p5 p6 p7 p8 p9 p10 p11 p12 : Int)  : Calls Try.prog 8 #[.agg #[.int .i64 kd, .int .i64 now, .int .u64 nonce, .int .i64 p0, .int .i64 p1, .int .i64 p2, .int .i64 p3, .int .i64 p4, .int .i64 p5, .int .u32 p6, .int .u32 p7, .int .u32 p8, .int .u64 p9, .int .u64 p10, .int .u64 p11, .int .u64 p12]] w fun e w' => e = .returned (.bool true) ∧ Grew w w' none := by
  have GR : Aside0 (Grew w w none) := Aside0.mk (Grew.refl w none)
  go_enter Try.func8, Try.ntmps8
  go_wp2_with (first
    | ((with_reducible refine gate_dst (N := 1) rfl ?_); refine ev_box rfl (N := 1) rfl (cs := #[.int .i64 kd, .int .i64 now, .int .u64 nonce, .int .i64 p0, .int .i64 p1, .int .i64 p2, .int .i64 p3, .int .i64 p4, .int .i64 p5, .int .u32 p6, .int .u32 p7, .int .u32 p8, .int .u64 p9, .int .u64 p10, .int .u64 p11, .int .u64 p12]) (t := 33) ?hr ?_; (case hr => first | (go_simp; done) | (go_simp; rfl)); intro go hle w1 hbox hgr; have Lo := Aside0.mk (GR.out.young hgr rfl hle); clear hle; have Bo := Aside0.mk hbox; clear hbox; replace GR := Aside0.mk (GR.out.nxt hgr rfl rfl rfl rfl); clear hgr; have qo1 := Bo.out.cell 1 rfl; have qo2 := Bo.out.cell 2 rfl)
    | (go_at_call 12; (with_reducible refine (sendP_nil _ now nonce).mono ?_); rintro e w2 ⟨rfl, hb⟩; have hgr := hb; clear hb; clear qo1 qo2; replace Bo := Aside0.mk (hgr.blk Bo.out); replace GR := Aside0.mk (GR.out.nxt hgr rfl rfl rfl rfl); clear hgr)
    | ((with_reducible refine gate_dst (N := 4) rfl ?_); refine ev_box rfl (N := 4) rfl (cs := #[.int .i64 0, .int .i64 0, .int .i64 0, .int .i64 0, .int .i64 0, .int .i64 0, .int .u32 0, .int .u32 0, .int .u32 0, .int .u64 0, .int .u64 0, .int .u64 0, .int .u64 0]) (t := 31) ?hr ?_; (case hr => first | (go_simp; done) | (go_simp; rfl)); intro gp hle w3 hbox hgr; have Nop := Aside0.mk (hgr.apart Bo.out hle); have Lp := Aside0.mk (GR.out.young hgr rfl hle); clear hle; have Bp := Aside0.mk hbox; clear hbox; replace Bo := Aside0.mk (hgr.blk Bo.out); replace GR := Aside0.mk (GR.out.nxt hgr rfl rfl rfl rfl); clear hgr)
    | ((with_reducible refine gate_store (t := 31) (p := 4) (v := .tmp 13) rfl ?_); refine ev_store rfl rfl 31 (.tmp 4) (.tmp 13) rfl (g := gp) (t := 31) (old := ?_) #[.int .i64 0, .int .i64 0, .int .i64 0, .int .i64 0, .int .i64 0, .int .i64 0, .int .u32 0, .int .u32 0, .int .u32 0, .int .u64 0, .int .u64 0, .int .u64 0, .int .u64 0] ?hx ?hy ?hb ?hi ?ho ?h1 ?_; (case hx => rfl); (case hy => first | rfl | (go_simp; done) | (go_simp; rfl)); (case hb => exact Bp.out); (case hi => kernel_rfl); (case ho => rfl); (case h1 => simp [Value.oneCell']); intro w4 hbox hgr; clear Bp; have Bp := Aside0.mk hbox; clear hbox; replace Bo := Aside0.mk (hgr.blkFar Bo.out Nop.out); replace GR := Aside0.mk (GR.out.nxtOwn hgr Lp.out rfl rfl rfl rfl); clear hgr; have qo0 := Bo.out.cell 0 rfl; have qo1 := Bo.out.cell 1 rfl; have qo2 := Bo.out.cell 2 rfl; have qo3 := Bo.out.cell 3 rfl; have qo4 := Bo.out.cell 4 rfl; have qo5 := Bo.out.cell 5 rfl; have qo6 := Bo.out.cell 6 rfl; have qo7 := Bo.out.cell 7 rfl; have qo8 := Bo.out.cell 8 rfl; have qo9 := Bo.out.cell 9 rfl; have qo10 := Bo.out.cell 10 rfl; have qo11 := Bo.out.cell 11 rfl; have qo12 := Bo.out.cell 12 rfl; have qo13 := Bo.out.cell 13 rfl; have qo14 := Bo.out.cell 14 rfl; have qo15 := Bo.out.cell 15 rfl)
    | ((with_reducible refine gate_dst (N := 15) rfl ?_); refine ev_load rfl (N := 15) rfl 31 (.tmp 4) rfl (g := gp) (t := 31) (cs := ?_) _ ?hx ?hb Try.underlying31 rfl ?hi ?_; (case hx => rfl); (case hb => exact Bp.out); (case hi => kernel_rfl))
    | (go_at_call 14; (with_reducible refine (recvP_nil _ now p0 p1 p2 p3 p4 p5 p6 p7 p8 p9 p10 p11 p12).mono ?_); rintro e w5 ⟨rfl, hb⟩; have hgr := hb; clear hb; clear qo0 qo1 qo2 qo3 qo4 qo5 qo6 qo7 qo8 qo9 qo10 qo11 qo12 qo13 qo14 qo15; replace Bo := Aside0.mk (hgr.blk Bo.out); replace Bp := Aside0.mk (hgr.blk Bp.out); replace GR := Aside0.mk (GR.out.nxt hgr rfl rfl rfl rfl); clear hgr)
    | (go_at_call 18; (with_reducible refine (pendP_nil_eq _).mono ?_); rintro e w_ ⟨rfl, rfl⟩)
    | (go_at_call 16; (with_reducible refine (countsP_nil_eq _).mono ?_); rintro e w_ ⟨rfl, rfl⟩)
    | (go_at_call 11; (with_reducible refine (awake_ok _).mono ?_); rintro e w6 ⟨rfl, hb⟩; have hgr := hb; clear hb; replace Bo := Aside0.mk (hgr.blk Bo.out); replace Bp := Aside0.mk (hgr.blk Bp.out); replace GR := Aside0.mk (GR.out.nxt hgr rfl rfl rfl rfl); clear hgr))
  go_ret
  exact ⟨rfl, GR.out⟩
theorem nobody_law (w : World) (kd now nonce : Int) (p : Np) (h1 : (Lit.int .i64 kd).wf = true) (h2 : (Lit.int .i64 now).wf = true) (h3 : (Lit.int .u64 nonce).wf = true) (h4 : p.wf) : Calls Try.prog 8 #[.agg (.int .i64 kd :: .int .i64 now :: .int .u64 nonce :: p.l).toArray] w fun e w' => e = .returned (.bool true) ∧ Grew w w' none :=
  nobody_ok w kd now nonce p.p0 p.p1 p.p2 p.p3 p.p4 p.p5 p.p6 p.p7 p.p8 p.p9 p.p10 p.p11 p.p12
end Go.Proofs.Ytohjmfjdopffkaa.As
