/- The outcome of a reply in the program: the walks of 'heard', a theorem for each way, part . -/
import Derived.Test.YtohjmfjdopffkaaOb
import Derived.Test.YtohjmfjdopffkaaPAsx
import Derived.WalkSpells
namespace Go.Proofs.Ytohjmfjdopffkaa.As
open Go Go.RowKit Go.Proofs.YtohjmfjdopffkaaW.PrintWords Go.Proofs.YtohjmfjdopffkaaW.PrintLast Go.Proofs.YtohjmfjdopffkaaW.PrintMore Go.Proofs.Ytohjmfjdopffkaa.PAs Go.Proofs.Ytohjmfjdopffkaa.Ob
attribute [local go_sem] max2_int min2_int max_two min_two max_three min_three max_four min_four
set_option linter.unusedVariables false
set_option linter.unusedSimpArgs false
set_option maxHeartbeats 2000000 in
set_option maxRecDepth 100000 in
theorem heardP_bad1n (k g : Nat) (w : World) (now ver n0 t0 : Int) (pd : Bool) (xm : Int) (c0 c1 c2 c3 c4 c5 c6 c7 : Int) (p0 p1 p2 p3 p4 p5 p6 p7 p8 p9 p10 p11 p12 : Int) (hb : Blk w g 57 #[.int .i64 ver, .int .u64 n0, .int .i64 t0, .bool pd, .int .u64 xm, .int .i64 c0, .int .i64 c1, .int .i64 c2, .int .i64 c3, .int .i64 c4, .int .i64 c5, .int .i64 c6, .int .i64 c7]) (hn : n0 ≠ 0) (ck : Int) (hck : ntpmsg_Check.f p0 p1 p2 p3 p4 p5 p6 p7 p8 p9 p10 p11 p12 = some ck) (hc : ck ≠ 0) : Calls Try.prog 27 #[.pointer (some ⟨g, 0, none⟩), .agg #[.int .i64 p0, .int .i64 p1, .int .i64 p2, .int .i64 p3, .int .i64 p4, .int .i64 p5, .int .u32 p6, .int .u32 p7, .int .u32 p8, .int .u64 p9, .int .u64 p10, .int .u64 p11, .int .u64 p12], .int .i64 now] w fun e w' => e = .returned (.agg #[.int .i64 0, .string ⟨#[]⟩, .int .i64 0, .int .i64 0, .int .i64 0, .int .i64 0]) ∧ Grew w w' none := by
  have GR : Aside0 (Grew w w none) := Aside0.mk (Grew.refl w none)
  have Ba := Aside0.mk hb
  clear hb
  have hn1 : (n0 == 0) = false := beq_eq_false_iff_ne.mpr hn
  have hn2 : (n0 != 0) = true := bne_iff_ne.mpr hn
  have hc1 : (ck == 0) = false := beq_eq_false_iff_ne.mpr hc
  have hc2 : (ck != 0) = true := bne_iff_ne.mpr hc
  have Hck := Aside0.mk hck
  clear hck
  clear hn
  clear hc
  go_enter Try.func27, Try.ntmps27
  go_wp2_with (first
    | ((with_reducible refine gate_dst (N := 4) rfl ?_); refine ev_box rfl (N := 4) rfl (cs := #[.int .i64 p0, .int .i64 p1, .int .i64 p2, .int .i64 p3, .int .i64 p4, .int .i64 p5, .int .u32 p6, .int .u32 p7, .int .u32 p8, .int .u64 p9, .int .u64 p10, .int .u64 p11, .int .u64 p12]) (t := 31) ?hr ?_; (case hr => first | (go_simp; done) | (go_simp; rfl)); intro gp hle w1 hbox hgr; have Nap := Aside0.mk (hgr.apart Ba.out hle); have Lp := Aside0.mk (GR.out.young hgr rfl hle); clear hle; have Bp := Aside0.mk hbox; clear hbox; replace Ba := Aside0.mk (hgr.blk Ba.out); replace GR := Aside0.mk (GR.out.nxt hgr rfl rfl rfl rfl); clear hgr)
    | ((with_reducible refine gate_dst (N := 6) rfl ?_); refine ev_box rfl (N := 6) rfl (cs := #[.int .i64 0, .string ⟨#[]⟩, .int .i64 0, .int .i64 0, .int .i64 0, .int .i64 0]) (t := 40) ?hr ?_; (case hr => first | (go_simp; done) | (go_simp; rfl)); intro gr hle w2 hbox hgr; have Nar := Aside0.mk (hgr.apart Ba.out hle); have Npr := Aside0.mk (hgr.apart Bp.out hle); have Lr := Aside0.mk (GR.out.young hgr rfl hle); clear hle; have Br := Aside0.mk hbox; clear hbox; replace Ba := Aside0.mk (hgr.blk Ba.out); replace Bp := Aside0.mk (hgr.blk Bp.out); replace GR := Aside0.mk (GR.out.nxt hgr rfl rfl rfl rfl); clear hgr; have qa1 := Ba.out.cell 1 rfl; have qa2 := Ba.out.cell 2 rfl)
    | ((with_reducible refine gate_dst (N := 30) rfl ?_); refine ev_load rfl (N := 30) rfl 31 (.tmp 4) rfl (g := gp) (t := 31) (cs := ?_) _ ?hx ?hb Try.underlying31 rfl ?hi ?_; (case hx => rfl); (case hb => exact Bp.out); (case hi => kernel_rfl))
    | (go_at_call 34; (with_reducible refine (ntpmsg_Check.calls p0 p1 p2 p3 p4 p5 p6 p7 p8 p9 p10 p11 p12 ck _ Hck.out).mono ?_); rintro e w3 ⟨rfl, hb⟩; have hgr := Grew.below (row := none) hb; clear hb; clear qa1 qa2; replace Ba := Aside0.mk (hgr.blk Ba.out); replace Bp := Aside0.mk (hgr.blk Bp.out); replace Br := Aside0.mk (hgr.blk Br.out); replace GR := Aside0.mk (GR.out.nxt hgr rfl rfl rfl rfl); clear hgr; have qa1 := Ba.out.cell 1 rfl; have qa2 := Ba.out.cell 2 rfl; have qa3 := Ba.out.cell 3 rfl; have qa4 := Ba.out.cell 4 rfl; have qp2 := Bp.out.cell 2 rfl; have qp10 := Bp.out.cell 10 rfl; have qp12 := Bp.out.cell 12 rfl)
    | ((with_reducible refine gate_store (t := 40) (p := 6) (v := .tmp 46) rfl ?_); refine ev_store rfl rfl 40 (.tmp 6) (.tmp 46) rfl (g := gr) (t := 40) (old := ?_) #[.int .i64 0, .string ⟨#[]⟩, .int .i64 0, .int .i64 0, .int .i64 0, .int .i64 0] ?hx ?hy ?hb ?hi ?ho ?h1 ?_; (case hx => rfl); (case hy => first | rfl | (go_simp; done) | (go_simp; rfl)); (case hb => exact Br.out); (case hi => kernel_rfl); (case ho => rfl); (case h1 => simp [Value.oneCell']); intro w4 hbox hgr; clear qa1 qa2 qa3 qa4 qp2 qp10 qp12; clear Br; have Br := Aside0.mk hbox; clear hbox; replace Ba := Aside0.mk (hgr.blkFar Ba.out Nar.out); replace Bp := Aside0.mk (hgr.blkFar Bp.out Npr.out); replace GR := Aside0.mk (GR.out.nxtOwn hgr Lr.out rfl rfl rfl rfl); clear hgr))
  refine bodyPost_ret (results_cell_row rfl _ _ gr 40 #[.int .i64 0, .string ⟨#[]⟩, .int .i64 0, .int .i64 0, .int .i64 0, .int .i64 0] (0, 0) _ rfl Br.out Try.underlying40 rfl (by kernel_rfl)) rfl ?_
  exact ⟨rfl, GR.out⟩
set_option maxHeartbeats 2000000 in
set_option maxRecDepth 100000 in
theorem heardP_bad2n (k g : Nat) (w : World) (now ver n0 t0 : Int) (pd : Bool) (xm : Int) (c0 c1 c2 c3 c4 c5 c6 c7 : Int) (p0 p1 p2 p3 p4 p5 p6 p7 p8 p9 p10 p11 p12 : Int) (hb : Blk w g 57 #[.int .i64 ver, .int .u64 n0, .int .i64 t0, .bool pd, .int .u64 xm, .int .i64 c0, .int .i64 c1, .int .i64 c2, .int .i64 c3, .int .i64 c4, .int .i64 c5, .int .i64 c6, .int .i64 c7]) (hn : n0 ≠ 0) (hck : ntpmsg_Check.f p0 p1 p2 p3 p4 p5 p6 p7 p8 p9 p10 p11 p12 = some 0) (hm : p2 ≠ 4) : Calls Try.prog 27 #[.pointer (some ⟨g, 0, none⟩), .agg #[.int .i64 p0, .int .i64 p1, .int .i64 p2, .int .i64 p3, .int .i64 p4, .int .i64 p5, .int .u32 p6, .int .u32 p7, .int .u32 p8, .int .u64 p9, .int .u64 p10, .int .u64 p11, .int .u64 p12], .int .i64 now] w fun e w' => e = .returned (.agg #[.int .i64 0, .string ⟨#[]⟩, .int .i64 0, .int .i64 0, .int .i64 0, .int .i64 0]) ∧ Grew w w' none := by
  have GR : Aside0 (Grew w w none) := Aside0.mk (Grew.refl w none)
  have Ba := Aside0.mk hb
  clear hb
  have hn1 : (n0 == 0) = false := beq_eq_false_iff_ne.mpr hn
  have hn2 : (n0 != 0) = true := bne_iff_ne.mpr hn
  have hm1 : (p2 == 4) = false := beq_eq_false_iff_ne.mpr hm
  have hm2 : (p2 != 4) = true := bne_iff_ne.mpr hm
  have Hck := Aside0.mk hck
  clear hck
  clear hn
  clear hm
  go_enter Try.func27, Try.ntmps27
  go_wp2_with (first
    | ((with_reducible refine gate_dst (N := 4) rfl ?_); refine ev_box rfl (N := 4) rfl (cs := #[.int .i64 p0, .int .i64 p1, .int .i64 p2, .int .i64 p3, .int .i64 p4, .int .i64 p5, .int .u32 p6, .int .u32 p7, .int .u32 p8, .int .u64 p9, .int .u64 p10, .int .u64 p11, .int .u64 p12]) (t := 31) ?hr ?_; (case hr => first | (go_simp; done) | (go_simp; rfl)); intro gp hle w1 hbox hgr; have Nap := Aside0.mk (hgr.apart Ba.out hle); have Lp := Aside0.mk (GR.out.young hgr rfl hle); clear hle; have Bp := Aside0.mk hbox; clear hbox; replace Ba := Aside0.mk (hgr.blk Ba.out); replace GR := Aside0.mk (GR.out.nxt hgr rfl rfl rfl rfl); clear hgr)
    | ((with_reducible refine gate_dst (N := 6) rfl ?_); refine ev_box rfl (N := 6) rfl (cs := #[.int .i64 0, .string ⟨#[]⟩, .int .i64 0, .int .i64 0, .int .i64 0, .int .i64 0]) (t := 40) ?hr ?_; (case hr => first | (go_simp; done) | (go_simp; rfl)); intro gr hle w2 hbox hgr; have Nar := Aside0.mk (hgr.apart Ba.out hle); have Npr := Aside0.mk (hgr.apart Bp.out hle); have Lr := Aside0.mk (GR.out.young hgr rfl hle); clear hle; have Br := Aside0.mk hbox; clear hbox; replace Ba := Aside0.mk (hgr.blk Ba.out); replace Bp := Aside0.mk (hgr.blk Bp.out); replace GR := Aside0.mk (GR.out.nxt hgr rfl rfl rfl rfl); clear hgr; have qa1 := Ba.out.cell 1 rfl; have qa2 := Ba.out.cell 2 rfl)
    | ((with_reducible refine gate_dst (N := 30) rfl ?_); refine ev_load rfl (N := 30) rfl 31 (.tmp 4) rfl (g := gp) (t := 31) (cs := ?_) _ ?hx ?hb Try.underlying31 rfl ?hi ?_; (case hx => rfl); (case hb => exact Bp.out); (case hi => kernel_rfl))
    | (go_at_call 34; (with_reducible refine (ntpmsg_Check.calls p0 p1 p2 p3 p4 p5 p6 p7 p8 p9 p10 p11 p12 0 _ Hck.out).mono ?_); rintro e w3 ⟨rfl, hb⟩; have hgr := Grew.below (row := none) hb; clear hb; clear qa1 qa2; replace Ba := Aside0.mk (hgr.blk Ba.out); replace Bp := Aside0.mk (hgr.blk Bp.out); replace Br := Aside0.mk (hgr.blk Br.out); replace GR := Aside0.mk (GR.out.nxt hgr rfl rfl rfl rfl); clear hgr; have qa1 := Ba.out.cell 1 rfl; have qa2 := Ba.out.cell 2 rfl; have qa3 := Ba.out.cell 3 rfl; have qa4 := Ba.out.cell 4 rfl; have qp2 := Bp.out.cell 2 rfl; have qp10 := Bp.out.cell 10 rfl; have qp12 := Bp.out.cell 12 rfl)
    | ((with_reducible refine gate_store (t := 40) (p := 6) (v := .tmp 46) rfl ?_); refine ev_store rfl rfl 40 (.tmp 6) (.tmp 46) rfl (g := gr) (t := 40) (old := ?_) #[.int .i64 0, .string ⟨#[]⟩, .int .i64 0, .int .i64 0, .int .i64 0, .int .i64 0] ?hx ?hy ?hb ?hi ?ho ?h1 ?_; (case hx => rfl); (case hy => first | rfl | (go_simp; done) | (go_simp; rfl)); (case hb => exact Br.out); (case hi => kernel_rfl); (case ho => rfl); (case h1 => simp [Value.oneCell']); intro w4 hbox hgr; clear qa1 qa2 qa3 qa4 qp2 qp10 qp12; clear Br; have Br := Aside0.mk hbox; clear hbox; replace Ba := Aside0.mk (hgr.blkFar Ba.out Nar.out); replace Bp := Aside0.mk (hgr.blkFar Bp.out Npr.out); replace GR := Aside0.mk (GR.out.nxtOwn hgr Lr.out rfl rfl rfl rfl); clear hgr))
  refine bodyPost_ret (results_cell_row rfl _ _ gr 40 #[.int .i64 0, .string ⟨#[]⟩, .int .i64 0, .int .i64 0, .int .i64 0, .int .i64 0] (0, 0) _ rfl Br.out Try.underlying40 rfl (by kernel_rfl)) rfl ?_
  exact ⟨rfl, GR.out⟩
set_option maxHeartbeats 2000000 in
set_option maxRecDepth 100000 in
theorem heardP_bad3n (k g : Nat) (w : World) (now ver n0 t0 : Int) (pd : Bool) (xm : Int) (c0 c1 c2 c3 c4 c5 c6 c7 : Int) (p0 p1 p2 p3 p4 p5 p6 p7 p8 p9 p10 p11 p12 : Int) (hb : Blk w g 57 #[.int .i64 ver, .int .u64 n0, .int .i64 t0, .bool pd, .int .u64 xm, .int .i64 c0, .int .i64 c1, .int .i64 c2, .int .i64 c3, .int .i64 c4, .int .i64 c5, .int .i64 c6, .int .i64 c7]) (hn : n0 ≠ 0) (hck : ntpmsg_Check.f p0 p1 p2 p3 p4 p5 p6 p7 p8 p9 p10 p11 p12 = some 0) (hm : p2 = 4) (hin : assoc_inside.f now = some false) : Calls Try.prog 27 #[.pointer (some ⟨g, 0, none⟩), .agg #[.int .i64 p0, .int .i64 p1, .int .i64 p2, .int .i64 p3, .int .i64 p4, .int .i64 p5, .int .u32 p6, .int .u32 p7, .int .u32 p8, .int .u64 p9, .int .u64 p10, .int .u64 p11, .int .u64 p12], .int .i64 now] w fun e w' => e = .returned (.agg #[.int .i64 0, .string ⟨#[]⟩, .int .i64 0, .int .i64 0, .int .i64 0, .int .i64 0]) ∧ Grew w w' none := by
  have GR : Aside0 (Grew w w none) := Aside0.mk (Grew.refl w none)
  have Ba := Aside0.mk hb
  clear hb
  have hn1 : (n0 == 0) = false := beq_eq_false_iff_ne.mpr hn
  have hn2 : (n0 != 0) = true := bne_iff_ne.mpr hn
  have hm1 : (p2 == 4) = true := beq_iff_eq.mpr hm
  have hm2 : (p2 != 4) = false := bne_eq_false_iff_eq.mpr hm
  have Hck := Aside0.mk hck
  clear hck
  have Hin := Aside0.mk hin
  clear hin
  clear hn
  clear hm
  go_enter Try.func27, Try.ntmps27
  go_wp2_with (first
    | ((with_reducible refine gate_dst (N := 4) rfl ?_); refine ev_box rfl (N := 4) rfl (cs := #[.int .i64 p0, .int .i64 p1, .int .i64 p2, .int .i64 p3, .int .i64 p4, .int .i64 p5, .int .u32 p6, .int .u32 p7, .int .u32 p8, .int .u64 p9, .int .u64 p10, .int .u64 p11, .int .u64 p12]) (t := 31) ?hr ?_; (case hr => first | (go_simp; done) | (go_simp; rfl)); intro gp hle w1 hbox hgr; have Nap := Aside0.mk (hgr.apart Ba.out hle); have Lp := Aside0.mk (GR.out.young hgr rfl hle); clear hle; have Bp := Aside0.mk hbox; clear hbox; replace Ba := Aside0.mk (hgr.blk Ba.out); replace GR := Aside0.mk (GR.out.nxt hgr rfl rfl rfl rfl); clear hgr)
    | ((with_reducible refine gate_dst (N := 6) rfl ?_); refine ev_box rfl (N := 6) rfl (cs := #[.int .i64 0, .string ⟨#[]⟩, .int .i64 0, .int .i64 0, .int .i64 0, .int .i64 0]) (t := 40) ?hr ?_; (case hr => first | (go_simp; done) | (go_simp; rfl)); intro gr hle w2 hbox hgr; have Nar := Aside0.mk (hgr.apart Ba.out hle); have Npr := Aside0.mk (hgr.apart Bp.out hle); have Lr := Aside0.mk (GR.out.young hgr rfl hle); clear hle; have Br := Aside0.mk hbox; clear hbox; replace Ba := Aside0.mk (hgr.blk Ba.out); replace Bp := Aside0.mk (hgr.blk Bp.out); replace GR := Aside0.mk (GR.out.nxt hgr rfl rfl rfl rfl); clear hgr; have qa1 := Ba.out.cell 1 rfl; have qa2 := Ba.out.cell 2 rfl)
    | ((with_reducible refine gate_dst (N := 30) rfl ?_); refine ev_load rfl (N := 30) rfl 31 (.tmp 4) rfl (g := gp) (t := 31) (cs := ?_) _ ?hx ?hb Try.underlying31 rfl ?hi ?_; (case hx => rfl); (case hb => exact Bp.out); (case hi => kernel_rfl))
    | (go_at_call 34; (with_reducible refine (ntpmsg_Check.calls p0 p1 p2 p3 p4 p5 p6 p7 p8 p9 p10 p11 p12 0 _ Hck.out).mono ?_); rintro e w3 ⟨rfl, hb⟩; have hgr := Grew.below (row := none) hb; clear hb; clear qa1 qa2; replace Ba := Aside0.mk (hgr.blk Ba.out); replace Bp := Aside0.mk (hgr.blk Bp.out); replace Br := Aside0.mk (hgr.blk Br.out); replace GR := Aside0.mk (GR.out.nxt hgr rfl rfl rfl rfl); clear hgr; have qa1 := Ba.out.cell 1 rfl; have qa2 := Ba.out.cell 2 rfl; have qa3 := Ba.out.cell 3 rfl; have qa4 := Ba.out.cell 4 rfl; have qp2 := Bp.out.cell 2 rfl; have qp10 := Bp.out.cell 10 rfl; have qp12 := Bp.out.cell 12 rfl)
    | (go_at_call 25; (with_reducible refine (assoc_inside.calls now false _ Hin.out).mono ?_); rintro e w4 ⟨rfl, hb⟩; have hgr := Grew.drawn0 hb; clear hb; clear qa1 qa2 qa3 qa4 qp2 qp10 qp12; replace Ba := Aside0.mk (hgr.blk Ba.out); replace Bp := Aside0.mk (hgr.blk Bp.out); replace Br := Aside0.mk (hgr.blk Br.out); replace GR := Aside0.mk (GR.out.nxt hgr rfl rfl rfl rfl); clear hgr; have qa1 := Ba.out.cell 1 rfl; have qa2 := Ba.out.cell 2 rfl; have qa3 := Ba.out.cell 3 rfl; have qa4 := Ba.out.cell 4 rfl; have qp2 := Bp.out.cell 2 rfl; have qp10 := Bp.out.cell 10 rfl; have qp12 := Bp.out.cell 12 rfl)
    | ((with_reducible refine gate_store (t := 40) (p := 6) (v := .tmp 46) rfl ?_); refine ev_store rfl rfl 40 (.tmp 6) (.tmp 46) rfl (g := gr) (t := 40) (old := ?_) #[.int .i64 0, .string ⟨#[]⟩, .int .i64 0, .int .i64 0, .int .i64 0, .int .i64 0] ?hx ?hy ?hb ?hi ?ho ?h1 ?_; (case hx => rfl); (case hy => first | rfl | (go_simp; done) | (go_simp; rfl)); (case hb => exact Br.out); (case hi => kernel_rfl); (case ho => rfl); (case h1 => simp [Value.oneCell']); intro w5 hbox hgr; clear qa1 qa2 qa3 qa4 qp2 qp10 qp12; clear Br; have Br := Aside0.mk hbox; clear hbox; replace Ba := Aside0.mk (hgr.blkFar Ba.out Nar.out); replace Bp := Aside0.mk (hgr.blkFar Bp.out Npr.out); replace GR := Aside0.mk (GR.out.nxtOwn hgr Lr.out rfl rfl rfl rfl); clear hgr))
  refine bodyPost_ret (results_cell_row rfl _ _ gr 40 #[.int .i64 0, .string ⟨#[]⟩, .int .i64 0, .int .i64 0, .int .i64 0, .int .i64 0] (0, 0) _ rfl Br.out Try.underlying40 rfl (by kernel_rfl)) rfl ?_
  exact ⟨rfl, GR.out⟩
set_option maxHeartbeats 2000000 in
set_option maxRecDepth 100000 in
theorem heardP_bad1z (k g : Nat) (w : World) (now ver n0 t0 : Int) (pd : Bool) (xm : Int) (c0 c1 c2 c3 c4 c5 c6 c7 : Int) (p0 p1 p2 p3 p4 p5 p6 p7 p8 p9 p10 p11 p12 : Int) (hb : Blk w g 57 #[.int .i64 ver, .int .u64 0, .int .i64 0, .bool pd, .int .u64 xm, .int .i64 c0, .int .i64 c1, .int .i64 c2, .int .i64 c3, .int .i64 c4, .int .i64 c5, .int .i64 c6, .int .i64 c7]) (ck : Int) (hck : ntpmsg_Check.f p0 p1 p2 p3 p4 p5 p6 p7 p8 p9 p10 p11 p12 = some ck) (hc : ck ≠ 0) : Calls Try.prog 27 #[.pointer (some ⟨g, 0, none⟩), .agg #[.int .i64 p0, .int .i64 p1, .int .i64 p2, .int .i64 p3, .int .i64 p4, .int .i64 p5, .int .u32 p6, .int .u32 p7, .int .u32 p8, .int .u64 p9, .int .u64 p10, .int .u64 p11, .int .u64 p12], .int .i64 now] w fun e w' => e = .returned (.agg #[.int .i64 0, .string ⟨#[]⟩, .int .i64 0, .int .i64 0, .int .i64 0, .int .i64 0]) ∧ Grew w w' none := by
  have GR : Aside0 (Grew w w none) := Aside0.mk (Grew.refl w none)
  have Ba := Aside0.mk hb
  clear hb
  have hc1 : (ck == 0) = false := beq_eq_false_iff_ne.mpr hc
  have hc2 : (ck != 0) = true := bne_iff_ne.mpr hc
  have Hck := Aside0.mk hck
  clear hck
  clear hc
  go_enter Try.func27, Try.ntmps27
  go_wp2_with (first
    | ((with_reducible refine gate_dst (N := 4) rfl ?_); refine ev_box rfl (N := 4) rfl (cs := #[.int .i64 p0, .int .i64 p1, .int .i64 p2, .int .i64 p3, .int .i64 p4, .int .i64 p5, .int .u32 p6, .int .u32 p7, .int .u32 p8, .int .u64 p9, .int .u64 p10, .int .u64 p11, .int .u64 p12]) (t := 31) ?hr ?_; (case hr => first | (go_simp; done) | (go_simp; rfl)); intro gp hle w1 hbox hgr; have Nap := Aside0.mk (hgr.apart Ba.out hle); have Lp := Aside0.mk (GR.out.young hgr rfl hle); clear hle; have Bp := Aside0.mk hbox; clear hbox; replace Ba := Aside0.mk (hgr.blk Ba.out); replace GR := Aside0.mk (GR.out.nxt hgr rfl rfl rfl rfl); clear hgr)
    | ((with_reducible refine gate_dst (N := 6) rfl ?_); refine ev_box rfl (N := 6) rfl (cs := #[.int .i64 0, .string ⟨#[]⟩, .int .i64 0, .int .i64 0, .int .i64 0, .int .i64 0]) (t := 40) ?hr ?_; (case hr => first | (go_simp; done) | (go_simp; rfl)); intro gr hle w2 hbox hgr; have Nar := Aside0.mk (hgr.apart Ba.out hle); have Npr := Aside0.mk (hgr.apart Bp.out hle); have Lr := Aside0.mk (GR.out.young hgr rfl hle); clear hle; have Br := Aside0.mk hbox; clear hbox; replace Ba := Aside0.mk (hgr.blk Ba.out); replace Bp := Aside0.mk (hgr.blk Bp.out); replace GR := Aside0.mk (GR.out.nxt hgr rfl rfl rfl rfl); clear hgr; have qa1 := Ba.out.cell 1 rfl; have qa2 := Ba.out.cell 2 rfl)
    | ((with_reducible refine gate_dst (N := 30) rfl ?_); refine ev_load rfl (N := 30) rfl 31 (.tmp 4) rfl (g := gp) (t := 31) (cs := ?_) _ ?hx ?hb Try.underlying31 rfl ?hi ?_; (case hx => rfl); (case hb => exact Bp.out); (case hi => kernel_rfl))
    | (go_at_call 34; (with_reducible refine (ntpmsg_Check.calls p0 p1 p2 p3 p4 p5 p6 p7 p8 p9 p10 p11 p12 ck _ Hck.out).mono ?_); rintro e w3 ⟨rfl, hb⟩; have hgr := Grew.below (row := none) hb; clear hb; clear qa1 qa2; replace Ba := Aside0.mk (hgr.blk Ba.out); replace Bp := Aside0.mk (hgr.blk Bp.out); replace Br := Aside0.mk (hgr.blk Br.out); replace GR := Aside0.mk (GR.out.nxt hgr rfl rfl rfl rfl); clear hgr; have qa1 := Ba.out.cell 1 rfl; have qa2 := Ba.out.cell 2 rfl; have qa3 := Ba.out.cell 3 rfl; have qa4 := Ba.out.cell 4 rfl; have qp2 := Bp.out.cell 2 rfl; have qp10 := Bp.out.cell 10 rfl; have qp12 := Bp.out.cell 12 rfl)
    | ((with_reducible refine gate_store (t := 40) (p := 6) (v := .tmp 46) rfl ?_); refine ev_store rfl rfl 40 (.tmp 6) (.tmp 46) rfl (g := gr) (t := 40) (old := ?_) #[.int .i64 0, .string ⟨#[]⟩, .int .i64 0, .int .i64 0, .int .i64 0, .int .i64 0] ?hx ?hy ?hb ?hi ?ho ?h1 ?_; (case hx => rfl); (case hy => first | rfl | (go_simp; done) | (go_simp; rfl)); (case hb => exact Br.out); (case hi => kernel_rfl); (case ho => rfl); (case h1 => simp [Value.oneCell']); intro w4 hbox hgr; clear qa1 qa2 qa3 qa4 qp2 qp10 qp12; clear Br; have Br := Aside0.mk hbox; clear hbox; replace Ba := Aside0.mk (hgr.blkFar Ba.out Nar.out); replace Bp := Aside0.mk (hgr.blkFar Bp.out Npr.out); replace GR := Aside0.mk (GR.out.nxtOwn hgr Lr.out rfl rfl rfl rfl); clear hgr))
  refine bodyPost_ret (results_cell_row rfl _ _ gr 40 #[.int .i64 0, .string ⟨#[]⟩, .int .i64 0, .int .i64 0, .int .i64 0, .int .i64 0] (0, 0) _ rfl Br.out Try.underlying40 rfl (by kernel_rfl)) rfl ?_
  exact ⟨rfl, GR.out⟩
set_option maxHeartbeats 2000000 in
set_option maxRecDepth 100000 in
theorem heardP_bad2z (k g : Nat) (w : World) (now ver n0 t0 : Int) (pd : Bool) (xm : Int) (c0 c1 c2 c3 c4 c5 c6 c7 : Int) (p0 p1 p2 p3 p4 p5 p6 p7 p8 p9 p10 p11 p12 : Int) (hb : Blk w g 57 #[.int .i64 ver, .int .u64 0, .int .i64 0, .bool pd, .int .u64 xm, .int .i64 c0, .int .i64 c1, .int .i64 c2, .int .i64 c3, .int .i64 c4, .int .i64 c5, .int .i64 c6, .int .i64 c7]) (hck : ntpmsg_Check.f p0 p1 p2 p3 p4 p5 p6 p7 p8 p9 p10 p11 p12 = some 0) (hm : p2 ≠ 4) : Calls Try.prog 27 #[.pointer (some ⟨g, 0, none⟩), .agg #[.int .i64 p0, .int .i64 p1, .int .i64 p2, .int .i64 p3, .int .i64 p4, .int .i64 p5, .int .u32 p6, .int .u32 p7, .int .u32 p8, .int .u64 p9, .int .u64 p10, .int .u64 p11, .int .u64 p12], .int .i64 now] w fun e w' => e = .returned (.agg #[.int .i64 0, .string ⟨#[]⟩, .int .i64 0, .int .i64 0, .int .i64 0, .int .i64 0]) ∧ Grew w w' none := by
  have GR : Aside0 (Grew w w none) := Aside0.mk (Grew.refl w none)
  have Ba := Aside0.mk hb
  clear hb
  have hm1 : (p2 == 4) = false := beq_eq_false_iff_ne.mpr hm
  have hm2 : (p2 != 4) = true := bne_iff_ne.mpr hm
  have Hck := Aside0.mk hck
  clear hck
  clear hm
  go_enter Try.func27, Try.ntmps27
  go_wp2_with (first
    | ((with_reducible refine gate_dst (N := 4) rfl ?_); refine ev_box rfl (N := 4) rfl (cs := #[.int .i64 p0, .int .i64 p1, .int .i64 p2, .int .i64 p3, .int .i64 p4, .int .i64 p5, .int .u32 p6, .int .u32 p7, .int .u32 p8, .int .u64 p9, .int .u64 p10, .int .u64 p11, .int .u64 p12]) (t := 31) ?hr ?_; (case hr => first | (go_simp; done) | (go_simp; rfl)); intro gp hle w1 hbox hgr; have Nap := Aside0.mk (hgr.apart Ba.out hle); have Lp := Aside0.mk (GR.out.young hgr rfl hle); clear hle; have Bp := Aside0.mk hbox; clear hbox; replace Ba := Aside0.mk (hgr.blk Ba.out); replace GR := Aside0.mk (GR.out.nxt hgr rfl rfl rfl rfl); clear hgr)
    | ((with_reducible refine gate_dst (N := 6) rfl ?_); refine ev_box rfl (N := 6) rfl (cs := #[.int .i64 0, .string ⟨#[]⟩, .int .i64 0, .int .i64 0, .int .i64 0, .int .i64 0]) (t := 40) ?hr ?_; (case hr => first | (go_simp; done) | (go_simp; rfl)); intro gr hle w2 hbox hgr; have Nar := Aside0.mk (hgr.apart Ba.out hle); have Npr := Aside0.mk (hgr.apart Bp.out hle); have Lr := Aside0.mk (GR.out.young hgr rfl hle); clear hle; have Br := Aside0.mk hbox; clear hbox; replace Ba := Aside0.mk (hgr.blk Ba.out); replace Bp := Aside0.mk (hgr.blk Bp.out); replace GR := Aside0.mk (GR.out.nxt hgr rfl rfl rfl rfl); clear hgr; have qa1 := Ba.out.cell 1 rfl; have qa2 := Ba.out.cell 2 rfl)
    | ((with_reducible refine gate_dst (N := 30) rfl ?_); refine ev_load rfl (N := 30) rfl 31 (.tmp 4) rfl (g := gp) (t := 31) (cs := ?_) _ ?hx ?hb Try.underlying31 rfl ?hi ?_; (case hx => rfl); (case hb => exact Bp.out); (case hi => kernel_rfl))
    | (go_at_call 34; (with_reducible refine (ntpmsg_Check.calls p0 p1 p2 p3 p4 p5 p6 p7 p8 p9 p10 p11 p12 0 _ Hck.out).mono ?_); rintro e w3 ⟨rfl, hb⟩; have hgr := Grew.below (row := none) hb; clear hb; clear qa1 qa2; replace Ba := Aside0.mk (hgr.blk Ba.out); replace Bp := Aside0.mk (hgr.blk Bp.out); replace Br := Aside0.mk (hgr.blk Br.out); replace GR := Aside0.mk (GR.out.nxt hgr rfl rfl rfl rfl); clear hgr; have qa1 := Ba.out.cell 1 rfl; have qa2 := Ba.out.cell 2 rfl; have qa3 := Ba.out.cell 3 rfl; have qa4 := Ba.out.cell 4 rfl; have qp2 := Bp.out.cell 2 rfl; have qp10 := Bp.out.cell 10 rfl; have qp12 := Bp.out.cell 12 rfl)
    | ((with_reducible refine gate_store (t := 40) (p := 6) (v := .tmp 46) rfl ?_); refine ev_store rfl rfl 40 (.tmp 6) (.tmp 46) rfl (g := gr) (t := 40) (old := ?_) #[.int .i64 0, .string ⟨#[]⟩, .int .i64 0, .int .i64 0, .int .i64 0, .int .i64 0] ?hx ?hy ?hb ?hi ?ho ?h1 ?_; (case hx => rfl); (case hy => first | rfl | (go_simp; done) | (go_simp; rfl)); (case hb => exact Br.out); (case hi => kernel_rfl); (case ho => rfl); (case h1 => simp [Value.oneCell']); intro w4 hbox hgr; clear qa1 qa2 qa3 qa4 qp2 qp10 qp12; clear Br; have Br := Aside0.mk hbox; clear hbox; replace Ba := Aside0.mk (hgr.blkFar Ba.out Nar.out); replace Bp := Aside0.mk (hgr.blkFar Bp.out Npr.out); replace GR := Aside0.mk (GR.out.nxtOwn hgr Lr.out rfl rfl rfl rfl); clear hgr))
  refine bodyPost_ret (results_cell_row rfl _ _ gr 40 #[.int .i64 0, .string ⟨#[]⟩, .int .i64 0, .int .i64 0, .int .i64 0, .int .i64 0] (0, 0) _ rfl Br.out Try.underlying40 rfl (by kernel_rfl)) rfl ?_
  exact ⟨rfl, GR.out⟩
set_option maxHeartbeats 2000000 in
set_option maxRecDepth 100000 in
theorem heardP_bad3z (k g : Nat) (w : World) (now ver n0 t0 : Int) (pd : Bool) (xm : Int) (c0 c1 c2 c3 c4 c5 c6 c7 : Int) (p0 p1 p2 p3 p4 p5 p6 p7 p8 p9 p10 p11 p12 : Int) (hb : Blk w g 57 #[.int .i64 ver, .int .u64 0, .int .i64 0, .bool pd, .int .u64 xm, .int .i64 c0, .int .i64 c1, .int .i64 c2, .int .i64 c3, .int .i64 c4, .int .i64 c5, .int .i64 c6, .int .i64 c7]) (hck : ntpmsg_Check.f p0 p1 p2 p3 p4 p5 p6 p7 p8 p9 p10 p11 p12 = some 0) (hm : p2 = 4) (hin : assoc_inside.f now = some false) : Calls Try.prog 27 #[.pointer (some ⟨g, 0, none⟩), .agg #[.int .i64 p0, .int .i64 p1, .int .i64 p2, .int .i64 p3, .int .i64 p4, .int .i64 p5, .int .u32 p6, .int .u32 p7, .int .u32 p8, .int .u64 p9, .int .u64 p10, .int .u64 p11, .int .u64 p12], .int .i64 now] w fun e w' => e = .returned (.agg #[.int .i64 0, .string ⟨#[]⟩, .int .i64 0, .int .i64 0, .int .i64 0, .int .i64 0]) ∧ Grew w w' none := by
  have GR : Aside0 (Grew w w none) := Aside0.mk (Grew.refl w none)
  have Ba := Aside0.mk hb
  clear hb
  have hm1 : (p2 == 4) = true := beq_iff_eq.mpr hm
  have hm2 : (p2 != 4) = false := bne_eq_false_iff_eq.mpr hm
  have Hck := Aside0.mk hck
  clear hck
  have Hin := Aside0.mk hin
  clear hin
  clear hm
  go_enter Try.func27, Try.ntmps27
  go_wp2_with (first
    | ((with_reducible refine gate_dst (N := 4) rfl ?_); refine ev_box rfl (N := 4) rfl (cs := #[.int .i64 p0, .int .i64 p1, .int .i64 p2, .int .i64 p3, .int .i64 p4, .int .i64 p5, .int .u32 p6, .int .u32 p7, .int .u32 p8, .int .u64 p9, .int .u64 p10, .int .u64 p11, .int .u64 p12]) (t := 31) ?hr ?_; (case hr => first | (go_simp; done) | (go_simp; rfl)); intro gp hle w1 hbox hgr; have Nap := Aside0.mk (hgr.apart Ba.out hle); have Lp := Aside0.mk (GR.out.young hgr rfl hle); clear hle; have Bp := Aside0.mk hbox; clear hbox; replace Ba := Aside0.mk (hgr.blk Ba.out); replace GR := Aside0.mk (GR.out.nxt hgr rfl rfl rfl rfl); clear hgr)
    | ((with_reducible refine gate_dst (N := 6) rfl ?_); refine ev_box rfl (N := 6) rfl (cs := #[.int .i64 0, .string ⟨#[]⟩, .int .i64 0, .int .i64 0, .int .i64 0, .int .i64 0]) (t := 40) ?hr ?_; (case hr => first | (go_simp; done) | (go_simp; rfl)); intro gr hle w2 hbox hgr; have Nar := Aside0.mk (hgr.apart Ba.out hle); have Npr := Aside0.mk (hgr.apart Bp.out hle); have Lr := Aside0.mk (GR.out.young hgr rfl hle); clear hle; have Br := Aside0.mk hbox; clear hbox; replace Ba := Aside0.mk (hgr.blk Ba.out); replace Bp := Aside0.mk (hgr.blk Bp.out); replace GR := Aside0.mk (GR.out.nxt hgr rfl rfl rfl rfl); clear hgr; have qa1 := Ba.out.cell 1 rfl; have qa2 := Ba.out.cell 2 rfl)
    | ((with_reducible refine gate_dst (N := 30) rfl ?_); refine ev_load rfl (N := 30) rfl 31 (.tmp 4) rfl (g := gp) (t := 31) (cs := ?_) _ ?hx ?hb Try.underlying31 rfl ?hi ?_; (case hx => rfl); (case hb => exact Bp.out); (case hi => kernel_rfl))
    | (go_at_call 34; (with_reducible refine (ntpmsg_Check.calls p0 p1 p2 p3 p4 p5 p6 p7 p8 p9 p10 p11 p12 0 _ Hck.out).mono ?_); rintro e w3 ⟨rfl, hb⟩; have hgr := Grew.below (row := none) hb; clear hb; clear qa1 qa2; replace Ba := Aside0.mk (hgr.blk Ba.out); replace Bp := Aside0.mk (hgr.blk Bp.out); replace Br := Aside0.mk (hgr.blk Br.out); replace GR := Aside0.mk (GR.out.nxt hgr rfl rfl rfl rfl); clear hgr; have qa1 := Ba.out.cell 1 rfl; have qa2 := Ba.out.cell 2 rfl; have qa3 := Ba.out.cell 3 rfl; have qa4 := Ba.out.cell 4 rfl; have qp2 := Bp.out.cell 2 rfl; have qp10 := Bp.out.cell 10 rfl; have qp12 := Bp.out.cell 12 rfl)
    | (go_at_call 25; (with_reducible refine (assoc_inside.calls now false _ Hin.out).mono ?_); rintro e w4 ⟨rfl, hb⟩; have hgr := Grew.drawn0 hb; clear hb; clear qa1 qa2 qa3 qa4 qp2 qp10 qp12; replace Ba := Aside0.mk (hgr.blk Ba.out); replace Bp := Aside0.mk (hgr.blk Bp.out); replace Br := Aside0.mk (hgr.blk Br.out); replace GR := Aside0.mk (GR.out.nxt hgr rfl rfl rfl rfl); clear hgr; have qa1 := Ba.out.cell 1 rfl; have qa2 := Ba.out.cell 2 rfl; have qa3 := Ba.out.cell 3 rfl; have qa4 := Ba.out.cell 4 rfl; have qp2 := Bp.out.cell 2 rfl; have qp10 := Bp.out.cell 10 rfl; have qp12 := Bp.out.cell 12 rfl)
    | ((with_reducible refine gate_store (t := 40) (p := 6) (v := .tmp 46) rfl ?_); refine ev_store rfl rfl 40 (.tmp 6) (.tmp 46) rfl (g := gr) (t := 40) (old := ?_) #[.int .i64 0, .string ⟨#[]⟩, .int .i64 0, .int .i64 0, .int .i64 0, .int .i64 0] ?hx ?hy ?hb ?hi ?ho ?h1 ?_; (case hx => rfl); (case hy => first | rfl | (go_simp; done) | (go_simp; rfl)); (case hb => exact Br.out); (case hi => kernel_rfl); (case ho => rfl); (case h1 => simp [Value.oneCell']); intro w5 hbox hgr; clear qa1 qa2 qa3 qa4 qp2 qp10 qp12; clear Br; have Br := Aside0.mk hbox; clear hbox; replace Ba := Aside0.mk (hgr.blkFar Ba.out Nar.out); replace Bp := Aside0.mk (hgr.blkFar Bp.out Npr.out); replace GR := Aside0.mk (GR.out.nxtOwn hgr Lr.out rfl rfl rfl rfl); clear hgr))
  refine bodyPost_ret (results_cell_row rfl _ _ gr 40 #[.int .i64 0, .string ⟨#[]⟩, .int .i64 0, .int .i64 0, .int .i64 0, .int .i64 0] (0, 0) _ rfl Br.out Try.underlying40 rfl (by kernel_rfl)) rfl ?_
  exact ⟨rfl, GR.out⟩
set_option maxHeartbeats 2000000 in
set_option maxRecDepth 100000 in
theorem heardP_bad4n (k g : Nat) (w : World) (now ver n0 t0 : Int) (pd : Bool) (xm : Int) (c0 c1 c2 c3 c4 c5 c6 c7 : Int) (p0 p1 p2 p3 p4 p5 p6 p7 p8 p9 p10 p11 p12 : Int) (hb : Blk w g 57 #[.int .i64 ver, .int .u64 n0, .int .i64 t0, .bool pd, .int .u64 xm, .int .i64 c0, .int .i64 c1, .int .i64 c2, .int .i64 c3, .int .i64 c4, .int .i64 c5, .int .i64 c6, .int .i64 c7]) (hn : n0 ≠ 0) (hck : ntpmsg_Check.f p0 p1 p2 p3 p4 p5 p6 p7 p8 p9 p10 p11 p12 = some 0) (hm : p2 = 4) (hin : assoc_inside.f now = some true) (hl : now < t0) : Calls Try.prog 27 #[.pointer (some ⟨g, 0, none⟩), .agg #[.int .i64 p0, .int .i64 p1, .int .i64 p2, .int .i64 p3, .int .i64 p4, .int .i64 p5, .int .u32 p6, .int .u32 p7, .int .u32 p8, .int .u64 p9, .int .u64 p10, .int .u64 p11, .int .u64 p12], .int .i64 now] w fun e w' => e = .returned (.agg #[.int .i64 0, .string ⟨#[]⟩, .int .i64 0, .int .i64 0, .int .i64 0, .int .i64 0]) ∧ Grew w w' none := by
  have GR : Aside0 (Grew w w none) := Aside0.mk (Grew.refl w none)
  have Ba := Aside0.mk hb
  clear hb
  have hn1 : (n0 == 0) = false := beq_eq_false_iff_ne.mpr hn
  have hn2 : (n0 != 0) = true := bne_iff_ne.mpr hn
  have hm1 : (p2 == 4) = true := beq_iff_eq.mpr hm
  have hm2 : (p2 != 4) = false := bne_eq_false_iff_eq.mpr hm
  have hl1 : decide (now < t0) = true := decide_eq_true hl
  have Hck := Aside0.mk hck
  clear hck
  have Hin := Aside0.mk hin
  clear hin
  clear hn
  clear hm
  clear hl
  go_enter Try.func27, Try.ntmps27
  go_wp2_with (first
    | ((with_reducible refine gate_dst (N := 4) rfl ?_); refine ev_box rfl (N := 4) rfl (cs := #[.int .i64 p0, .int .i64 p1, .int .i64 p2, .int .i64 p3, .int .i64 p4, .int .i64 p5, .int .u32 p6, .int .u32 p7, .int .u32 p8, .int .u64 p9, .int .u64 p10, .int .u64 p11, .int .u64 p12]) (t := 31) ?hr ?_; (case hr => first | (go_simp; done) | (go_simp; rfl)); intro gp hle w1 hbox hgr; have Nap := Aside0.mk (hgr.apart Ba.out hle); have Lp := Aside0.mk (GR.out.young hgr rfl hle); clear hle; have Bp := Aside0.mk hbox; clear hbox; replace Ba := Aside0.mk (hgr.blk Ba.out); replace GR := Aside0.mk (GR.out.nxt hgr rfl rfl rfl rfl); clear hgr)
    | ((with_reducible refine gate_dst (N := 6) rfl ?_); refine ev_box rfl (N := 6) rfl (cs := #[.int .i64 0, .string ⟨#[]⟩, .int .i64 0, .int .i64 0, .int .i64 0, .int .i64 0]) (t := 40) ?hr ?_; (case hr => first | (go_simp; done) | (go_simp; rfl)); intro gr hle w2 hbox hgr; have Nar := Aside0.mk (hgr.apart Ba.out hle); have Npr := Aside0.mk (hgr.apart Bp.out hle); have Lr := Aside0.mk (GR.out.young hgr rfl hle); clear hle; have Br := Aside0.mk hbox; clear hbox; replace Ba := Aside0.mk (hgr.blk Ba.out); replace Bp := Aside0.mk (hgr.blk Bp.out); replace GR := Aside0.mk (GR.out.nxt hgr rfl rfl rfl rfl); clear hgr; have qa1 := Ba.out.cell 1 rfl; have qa2 := Ba.out.cell 2 rfl)
    | ((with_reducible refine gate_dst (N := 30) rfl ?_); refine ev_load rfl (N := 30) rfl 31 (.tmp 4) rfl (g := gp) (t := 31) (cs := ?_) _ ?hx ?hb Try.underlying31 rfl ?hi ?_; (case hx => rfl); (case hb => exact Bp.out); (case hi => kernel_rfl))
    | (go_at_call 34; (with_reducible refine (ntpmsg_Check.calls p0 p1 p2 p3 p4 p5 p6 p7 p8 p9 p10 p11 p12 0 _ Hck.out).mono ?_); rintro e w3 ⟨rfl, hb⟩; have hgr := Grew.below (row := none) hb; clear hb; clear qa1 qa2; replace Ba := Aside0.mk (hgr.blk Ba.out); replace Bp := Aside0.mk (hgr.blk Bp.out); replace Br := Aside0.mk (hgr.blk Br.out); replace GR := Aside0.mk (GR.out.nxt hgr rfl rfl rfl rfl); clear hgr; have qa1 := Ba.out.cell 1 rfl; have qa2 := Ba.out.cell 2 rfl; have qa3 := Ba.out.cell 3 rfl; have qa4 := Ba.out.cell 4 rfl; have qp2 := Bp.out.cell 2 rfl; have qp10 := Bp.out.cell 10 rfl; have qp12 := Bp.out.cell 12 rfl)
    | (go_at_call 25; (with_reducible refine (assoc_inside.calls now true _ Hin.out).mono ?_); rintro e w4 ⟨rfl, hb⟩; have hgr := Grew.drawn0 hb; clear hb; clear qa1 qa2 qa3 qa4 qp2 qp10 qp12; replace Ba := Aside0.mk (hgr.blk Ba.out); replace Bp := Aside0.mk (hgr.blk Bp.out); replace Br := Aside0.mk (hgr.blk Br.out); replace GR := Aside0.mk (GR.out.nxt hgr rfl rfl rfl rfl); clear hgr; have qa1 := Ba.out.cell 1 rfl; have qa2 := Ba.out.cell 2 rfl; have qa3 := Ba.out.cell 3 rfl; have qa4 := Ba.out.cell 4 rfl; have qp2 := Bp.out.cell 2 rfl; have qp10 := Bp.out.cell 10 rfl; have qp12 := Bp.out.cell 12 rfl)
    | ((with_reducible refine gate_store (t := 40) (p := 6) (v := .tmp 46) rfl ?_); refine ev_store rfl rfl 40 (.tmp 6) (.tmp 46) rfl (g := gr) (t := 40) (old := ?_) #[.int .i64 0, .string ⟨#[]⟩, .int .i64 0, .int .i64 0, .int .i64 0, .int .i64 0] ?hx ?hy ?hb ?hi ?ho ?h1 ?_; (case hx => rfl); (case hy => first | rfl | (go_simp; done) | (go_simp; rfl)); (case hb => exact Br.out); (case hi => kernel_rfl); (case ho => rfl); (case h1 => simp [Value.oneCell']); intro w5 hbox hgr; clear qa1 qa2 qa3 qa4 qp2 qp10 qp12; clear Br; have Br := Aside0.mk hbox; clear hbox; replace Ba := Aside0.mk (hgr.blkFar Ba.out Nar.out); replace Bp := Aside0.mk (hgr.blkFar Bp.out Npr.out); replace GR := Aside0.mk (GR.out.nxtOwn hgr Lr.out rfl rfl rfl rfl); clear hgr))
  refine bodyPost_ret (results_cell_row rfl _ _ gr 40 #[.int .i64 0, .string ⟨#[]⟩, .int .i64 0, .int .i64 0, .int .i64 0, .int .i64 0] (0, 0) _ rfl Br.out Try.underlying40 rfl (by kernel_rfl)) rfl ?_
  exact ⟨rfl, GR.out⟩
set_option maxHeartbeats 2000000 in
set_option maxRecDepth 100000 in
theorem heardP_nonez (k g : Nat) (w : World) (now ver n0 t0 : Int) (pd : Bool) (xm : Int) (c0 c1 c2 c3 c4 c5 c6 c7 : Int) (p0 p1 p2 p3 p4 p5 p6 p7 p8 p9 p10 p11 p12 : Int) (hb : Blk w g 57 #[.int .i64 ver, .int .u64 0, .int .i64 0, .bool false, .int .u64 xm, .int .i64 c0, .int .i64 c1, .int .i64 c2, .int .i64 c3, .int .i64 c4, .int .i64 c5, .int .i64 c6, .int .i64 c7]) (hck : ntpmsg_Check.f p0 p1 p2 p3 p4 p5 p6 p7 p8 p9 p10 p11 p12 = some 0) (hm : p2 = 4) (hin : assoc_inside.f now = some true)  : Calls Try.prog 27 #[.pointer (some ⟨g, 0, none⟩), .agg #[.int .i64 p0, .int .i64 p1, .int .i64 p2, .int .i64 p3, .int .i64 p4, .int .i64 p5, .int .u32 p6, .int .u32 p7, .int .u32 p8, .int .u64 p9, .int .u64 p10, .int .u64 p11, .int .u64 p12], .int .i64 now] w fun e w' => e = .returned (.agg #[.int .i64 1, .string ⟨#[]⟩, .int .i64 0, .int .i64 0, .int .i64 0, .int .i64 0]) ∧ Grew w w' none := by
  have GR : Aside0 (Grew w w none) := Aside0.mk (Grew.refl w none)
  have Ba := Aside0.mk hb
  clear hb
  have hm1 : (p2 == 4) = true := beq_iff_eq.mpr hm
  have hm2 : (p2 != 4) = false := bne_eq_false_iff_eq.mpr hm
  have Hck := Aside0.mk hck
  clear hck
  have Hin := Aside0.mk hin
  clear hin
  clear hm
  go_enter Try.func27, Try.ntmps27
  go_wp2_with (first
    | ((with_reducible refine gate_dst (N := 4) rfl ?_); refine ev_box rfl (N := 4) rfl (cs := #[.int .i64 p0, .int .i64 p1, .int .i64 p2, .int .i64 p3, .int .i64 p4, .int .i64 p5, .int .u32 p6, .int .u32 p7, .int .u32 p8, .int .u64 p9, .int .u64 p10, .int .u64 p11, .int .u64 p12]) (t := 31) ?hr ?_; (case hr => first | (go_simp; done) | (go_simp; rfl)); intro gp hle w1 hbox hgr; have Nap := Aside0.mk (hgr.apart Ba.out hle); have Lp := Aside0.mk (GR.out.young hgr rfl hle); clear hle; have Bp := Aside0.mk hbox; clear hbox; replace Ba := Aside0.mk (hgr.blk Ba.out); replace GR := Aside0.mk (GR.out.nxt hgr rfl rfl rfl rfl); clear hgr)
    | ((with_reducible refine gate_dst (N := 6) rfl ?_); refine ev_box rfl (N := 6) rfl (cs := #[.int .i64 0, .string ⟨#[]⟩, .int .i64 0, .int .i64 0, .int .i64 0, .int .i64 0]) (t := 40) ?hr ?_; (case hr => first | (go_simp; done) | (go_simp; rfl)); intro gr hle w2 hbox hgr; have Nar := Aside0.mk (hgr.apart Ba.out hle); have Npr := Aside0.mk (hgr.apart Bp.out hle); have Lr := Aside0.mk (GR.out.young hgr rfl hle); clear hle; have Br := Aside0.mk hbox; clear hbox; replace Ba := Aside0.mk (hgr.blk Ba.out); replace Bp := Aside0.mk (hgr.blk Bp.out); replace GR := Aside0.mk (GR.out.nxt hgr rfl rfl rfl rfl); clear hgr; have qa1 := Ba.out.cell 1 rfl; have qa2 := Ba.out.cell 2 rfl)
    | ((with_reducible refine gate_dst (N := 30) rfl ?_); refine ev_load rfl (N := 30) rfl 31 (.tmp 4) rfl (g := gp) (t := 31) (cs := ?_) _ ?hx ?hb Try.underlying31 rfl ?hi ?_; (case hx => rfl); (case hb => exact Bp.out); (case hi => kernel_rfl))
    | (go_at_call 34; (with_reducible refine (ntpmsg_Check.calls p0 p1 p2 p3 p4 p5 p6 p7 p8 p9 p10 p11 p12 0 _ Hck.out).mono ?_); rintro e w3 ⟨rfl, hb⟩; have hgr := Grew.below (row := none) hb; clear hb; clear qa1 qa2; replace Ba := Aside0.mk (hgr.blk Ba.out); replace Bp := Aside0.mk (hgr.blk Bp.out); replace Br := Aside0.mk (hgr.blk Br.out); replace GR := Aside0.mk (GR.out.nxt hgr rfl rfl rfl rfl); clear hgr; have qa1 := Ba.out.cell 1 rfl; have qa2 := Ba.out.cell 2 rfl; have qa3 := Ba.out.cell 3 rfl; have qa4 := Ba.out.cell 4 rfl; have qp2 := Bp.out.cell 2 rfl; have qp10 := Bp.out.cell 10 rfl; have qp12 := Bp.out.cell 12 rfl)
    | (go_at_call 25; (with_reducible refine (assoc_inside.calls now true _ Hin.out).mono ?_); rintro e w4 ⟨rfl, hb⟩; have hgr := Grew.drawn0 hb; clear hb; clear qa1 qa2 qa3 qa4 qp2 qp10 qp12; replace Ba := Aside0.mk (hgr.blk Ba.out); replace Bp := Aside0.mk (hgr.blk Bp.out); replace Br := Aside0.mk (hgr.blk Br.out); replace GR := Aside0.mk (GR.out.nxt hgr rfl rfl rfl rfl); clear hgr; have qa1 := Ba.out.cell 1 rfl; have qa2 := Ba.out.cell 2 rfl; have qa3 := Ba.out.cell 3 rfl; have qa4 := Ba.out.cell 4 rfl; have qp2 := Bp.out.cell 2 rfl; have qp10 := Bp.out.cell 10 rfl; have qp12 := Bp.out.cell 12 rfl)
    | ((with_reducible refine gate_store (t := 40) (p := 6) (v := .tmp 53) rfl ?_); refine ev_store rfl rfl 40 (.tmp 6) (.tmp 53) rfl (g := gr) (t := 40) (old := ?_) #[.int .i64 1, .string ⟨#[]⟩, .int .i64 0, .int .i64 0, .int .i64 0, .int .i64 0] ?hx ?hy ?hb ?hi ?ho ?h1 ?_; (case hx => rfl); (case hy => first | rfl | (go_simp; done) | (go_simp; rfl)); (case hb => exact Br.out); (case hi => kernel_rfl); (case ho => rfl); (case h1 => simp [Value.oneCell']); intro w5 hbox hgr; clear qa1 qa2 qa3 qa4 qp2 qp10 qp12; clear Br; have Br := Aside0.mk hbox; clear hbox; replace Ba := Aside0.mk (hgr.blkFar Ba.out Nar.out); replace Bp := Aside0.mk (hgr.blkFar Bp.out Npr.out); replace GR := Aside0.mk (GR.out.nxtOwn hgr Lr.out rfl rfl rfl rfl); clear hgr))
  refine bodyPost_ret (results_cell_row rfl _ _ gr 40 #[.int .i64 1, .string ⟨#[]⟩, .int .i64 0, .int .i64 0, .int .i64 0, .int .i64 0] (0, 0) _ rfl Br.out Try.underlying40 rfl (by kernel_rfl)) rfl ?_
  exact ⟨rfl, GR.out⟩
set_option maxHeartbeats 2000000 in
set_option maxRecDepth 100000 in
theorem heardP_nonen (k g : Nat) (w : World) (now ver n0 t0 : Int) (pd : Bool) (xm : Int) (c0 c1 c2 c3 c4 c5 c6 c7 : Int) (p0 p1 p2 p3 p4 p5 p6 p7 p8 p9 p10 p11 p12 : Int) (hb : Blk w g 57 #[.int .i64 ver, .int .u64 n0, .int .i64 t0, .bool false, .int .u64 xm, .int .i64 c0, .int .i64 c1, .int .i64 c2, .int .i64 c3, .int .i64 c4, .int .i64 c5, .int .i64 c6, .int .i64 c7]) (hn : n0 ≠ 0) (hck : ntpmsg_Check.f p0 p1 p2 p3 p4 p5 p6 p7 p8 p9 p10 p11 p12 = some 0) (hm : p2 = 4) (hin : assoc_inside.f now = some true) (hl : ¬ now < t0)  : Calls Try.prog 27 #[.pointer (some ⟨g, 0, none⟩), .agg #[.int .i64 p0, .int .i64 p1, .int .i64 p2, .int .i64 p3, .int .i64 p4, .int .i64 p5, .int .u32 p6, .int .u32 p7, .int .u32 p8, .int .u64 p9, .int .u64 p10, .int .u64 p11, .int .u64 p12], .int .i64 now] w fun e w' => e = .returned (.agg #[.int .i64 1, .string ⟨#[]⟩, .int .i64 0, .int .i64 0, .int .i64 0, .int .i64 0]) ∧ Grew w w' none := by
  have GR : Aside0 (Grew w w none) := Aside0.mk (Grew.refl w none)
  have Ba := Aside0.mk hb
  clear hb
  have hn1 : (n0 == 0) = false := beq_eq_false_iff_ne.mpr hn
  have hn2 : (n0 != 0) = true := bne_iff_ne.mpr hn
  have hm1 : (p2 == 4) = true := beq_iff_eq.mpr hm
  have hm2 : (p2 != 4) = false := bne_eq_false_iff_eq.mpr hm
  have hl1 : decide (now < t0) = false := decide_eq_false hl
  have Hck := Aside0.mk hck
  clear hck
  have Hin := Aside0.mk hin
  clear hin
  clear hn
  clear hm
  clear hl
  go_enter Try.func27, Try.ntmps27
  go_wp2_with (first
    | ((with_reducible refine gate_dst (N := 4) rfl ?_); refine ev_box rfl (N := 4) rfl (cs := #[.int .i64 p0, .int .i64 p1, .int .i64 p2, .int .i64 p3, .int .i64 p4, .int .i64 p5, .int .u32 p6, .int .u32 p7, .int .u32 p8, .int .u64 p9, .int .u64 p10, .int .u64 p11, .int .u64 p12]) (t := 31) ?hr ?_; (case hr => first | (go_simp; done) | (go_simp; rfl)); intro gp hle w1 hbox hgr; have Nap := Aside0.mk (hgr.apart Ba.out hle); have Lp := Aside0.mk (GR.out.young hgr rfl hle); clear hle; have Bp := Aside0.mk hbox; clear hbox; replace Ba := Aside0.mk (hgr.blk Ba.out); replace GR := Aside0.mk (GR.out.nxt hgr rfl rfl rfl rfl); clear hgr)
    | ((with_reducible refine gate_dst (N := 6) rfl ?_); refine ev_box rfl (N := 6) rfl (cs := #[.int .i64 0, .string ⟨#[]⟩, .int .i64 0, .int .i64 0, .int .i64 0, .int .i64 0]) (t := 40) ?hr ?_; (case hr => first | (go_simp; done) | (go_simp; rfl)); intro gr hle w2 hbox hgr; have Nar := Aside0.mk (hgr.apart Ba.out hle); have Npr := Aside0.mk (hgr.apart Bp.out hle); have Lr := Aside0.mk (GR.out.young hgr rfl hle); clear hle; have Br := Aside0.mk hbox; clear hbox; replace Ba := Aside0.mk (hgr.blk Ba.out); replace Bp := Aside0.mk (hgr.blk Bp.out); replace GR := Aside0.mk (GR.out.nxt hgr rfl rfl rfl rfl); clear hgr; have qa1 := Ba.out.cell 1 rfl; have qa2 := Ba.out.cell 2 rfl)
    | ((with_reducible refine gate_dst (N := 30) rfl ?_); refine ev_load rfl (N := 30) rfl 31 (.tmp 4) rfl (g := gp) (t := 31) (cs := ?_) _ ?hx ?hb Try.underlying31 rfl ?hi ?_; (case hx => rfl); (case hb => exact Bp.out); (case hi => kernel_rfl))
    | (go_at_call 34; (with_reducible refine (ntpmsg_Check.calls p0 p1 p2 p3 p4 p5 p6 p7 p8 p9 p10 p11 p12 0 _ Hck.out).mono ?_); rintro e w3 ⟨rfl, hb⟩; have hgr := Grew.below (row := none) hb; clear hb; clear qa1 qa2; replace Ba := Aside0.mk (hgr.blk Ba.out); replace Bp := Aside0.mk (hgr.blk Bp.out); replace Br := Aside0.mk (hgr.blk Br.out); replace GR := Aside0.mk (GR.out.nxt hgr rfl rfl rfl rfl); clear hgr; have qa1 := Ba.out.cell 1 rfl; have qa2 := Ba.out.cell 2 rfl; have qa3 := Ba.out.cell 3 rfl; have qa4 := Ba.out.cell 4 rfl; have qp2 := Bp.out.cell 2 rfl; have qp10 := Bp.out.cell 10 rfl; have qp12 := Bp.out.cell 12 rfl)
    | (go_at_call 25; (with_reducible refine (assoc_inside.calls now true _ Hin.out).mono ?_); rintro e w4 ⟨rfl, hb⟩; have hgr := Grew.drawn0 hb; clear hb; clear qa1 qa2 qa3 qa4 qp2 qp10 qp12; replace Ba := Aside0.mk (hgr.blk Ba.out); replace Bp := Aside0.mk (hgr.blk Bp.out); replace Br := Aside0.mk (hgr.blk Br.out); replace GR := Aside0.mk (GR.out.nxt hgr rfl rfl rfl rfl); clear hgr; have qa1 := Ba.out.cell 1 rfl; have qa2 := Ba.out.cell 2 rfl; have qa3 := Ba.out.cell 3 rfl; have qa4 := Ba.out.cell 4 rfl; have qp2 := Bp.out.cell 2 rfl; have qp10 := Bp.out.cell 10 rfl; have qp12 := Bp.out.cell 12 rfl)
    | ((with_reducible refine gate_store (t := 40) (p := 6) (v := .tmp 53) rfl ?_); refine ev_store rfl rfl 40 (.tmp 6) (.tmp 53) rfl (g := gr) (t := 40) (old := ?_) #[.int .i64 1, .string ⟨#[]⟩, .int .i64 0, .int .i64 0, .int .i64 0, .int .i64 0] ?hx ?hy ?hb ?hi ?ho ?h1 ?_; (case hx => rfl); (case hy => first | rfl | (go_simp; done) | (go_simp; rfl)); (case hb => exact Br.out); (case hi => kernel_rfl); (case ho => rfl); (case h1 => simp [Value.oneCell']); intro w5 hbox hgr; clear qa1 qa2 qa3 qa4 qp2 qp10 qp12; clear Br; have Br := Aside0.mk hbox; clear hbox; replace Ba := Aside0.mk (hgr.blkFar Ba.out Nar.out); replace Bp := Aside0.mk (hgr.blkFar Bp.out Npr.out); replace GR := Aside0.mk (GR.out.nxtOwn hgr Lr.out rfl rfl rfl rfl); clear hgr))
  refine bodyPost_ret (results_cell_row rfl _ _ gr 40 #[.int .i64 1, .string ⟨#[]⟩, .int .i64 0, .int .i64 0, .int .i64 0, .int .i64 0] (0, 0) _ rfl Br.out Try.underlying40 rfl (by kernel_rfl)) rfl ?_
  exact ⟨rfl, GR.out⟩
set_option maxHeartbeats 2000000 in
set_option maxRecDepth 100000 in
theorem heardP_bogus (k g : Nat) (w : World) (now ver n0 t0 : Int) (pd : Bool) (xm : Int) (c0 c1 c2 c3 c4 c5 c6 c7 : Int) (p0 p1 p2 p3 p4 p5 p6 p7 p8 p9 p10 p11 p12 : Int) (hb : Blk w g 57 #[.int .i64 ver, .int .u64 n0, .int .i64 t0, .bool true, .int .u64 xm, .int .i64 c0, .int .i64 c1, .int .i64 c2, .int .i64 c3, .int .i64 c4, .int .i64 c5, .int .i64 c6, .int .i64 c7]) (hn : n0 ≠ 0) (hck : ntpmsg_Check.f p0 p1 p2 p3 p4 p5 p6 p7 p8 p9 p10 p11 p12 = some 0) (hm : p2 = 4) (hin : assoc_inside.f now = some true) (hl : ¬ now < t0) (ho : p10 ≠ n0) : Calls Try.prog 27 #[.pointer (some ⟨g, 0, none⟩), .agg #[.int .i64 p0, .int .i64 p1, .int .i64 p2, .int .i64 p3, .int .i64 p4, .int .i64 p5, .int .u32 p6, .int .u32 p7, .int .u32 p8, .int .u64 p9, .int .u64 p10, .int .u64 p11, .int .u64 p12], .int .i64 now] w fun e w' => e = .returned (.agg #[.int .i64 2, .string ⟨#[]⟩, .int .i64 0, .int .i64 0, .int .i64 0, .int .i64 0]) ∧ Grew w w' none := by
  have GR : Aside0 (Grew w w none) := Aside0.mk (Grew.refl w none)
  have Ba := Aside0.mk hb
  clear hb
  have hn1 : (n0 == 0) = false := beq_eq_false_iff_ne.mpr hn
  have hn2 : (n0 != 0) = true := bne_iff_ne.mpr hn
  have hm1 : (p2 == 4) = true := beq_iff_eq.mpr hm
  have hm2 : (p2 != 4) = false := bne_eq_false_iff_eq.mpr hm
  have hl1 : decide (now < t0) = false := decide_eq_false hl
  have ho1 : (p10 == n0) = false := beq_eq_false_iff_ne.mpr ho
  have ho2 : (p10 != n0) = true := bne_iff_ne.mpr ho
  have Hck := Aside0.mk hck
  clear hck
  have Hin := Aside0.mk hin
  clear hin
  clear hn
  clear hm
  clear hl
  clear ho
  go_enter Try.func27, Try.ntmps27
  go_wp2_with (first
    | ((with_reducible refine gate_dst (N := 4) rfl ?_); refine ev_box rfl (N := 4) rfl (cs := #[.int .i64 p0, .int .i64 p1, .int .i64 p2, .int .i64 p3, .int .i64 p4, .int .i64 p5, .int .u32 p6, .int .u32 p7, .int .u32 p8, .int .u64 p9, .int .u64 p10, .int .u64 p11, .int .u64 p12]) (t := 31) ?hr ?_; (case hr => first | (go_simp; done) | (go_simp; rfl)); intro gp hle w1 hbox hgr; have Nap := Aside0.mk (hgr.apart Ba.out hle); have Lp := Aside0.mk (GR.out.young hgr rfl hle); clear hle; have Bp := Aside0.mk hbox; clear hbox; replace Ba := Aside0.mk (hgr.blk Ba.out); replace GR := Aside0.mk (GR.out.nxt hgr rfl rfl rfl rfl); clear hgr)
    | ((with_reducible refine gate_dst (N := 6) rfl ?_); refine ev_box rfl (N := 6) rfl (cs := #[.int .i64 0, .string ⟨#[]⟩, .int .i64 0, .int .i64 0, .int .i64 0, .int .i64 0]) (t := 40) ?hr ?_; (case hr => first | (go_simp; done) | (go_simp; rfl)); intro gr hle w2 hbox hgr; have Nar := Aside0.mk (hgr.apart Ba.out hle); have Npr := Aside0.mk (hgr.apart Bp.out hle); have Lr := Aside0.mk (GR.out.young hgr rfl hle); clear hle; have Br := Aside0.mk hbox; clear hbox; replace Ba := Aside0.mk (hgr.blk Ba.out); replace Bp := Aside0.mk (hgr.blk Bp.out); replace GR := Aside0.mk (GR.out.nxt hgr rfl rfl rfl rfl); clear hgr; have qa1 := Ba.out.cell 1 rfl; have qa2 := Ba.out.cell 2 rfl)
    | ((with_reducible refine gate_dst (N := 30) rfl ?_); refine ev_load rfl (N := 30) rfl 31 (.tmp 4) rfl (g := gp) (t := 31) (cs := ?_) _ ?hx ?hb Try.underlying31 rfl ?hi ?_; (case hx => rfl); (case hb => exact Bp.out); (case hi => kernel_rfl))
    | (go_at_call 34; (with_reducible refine (ntpmsg_Check.calls p0 p1 p2 p3 p4 p5 p6 p7 p8 p9 p10 p11 p12 0 _ Hck.out).mono ?_); rintro e w3 ⟨rfl, hb⟩; have hgr := Grew.below (row := none) hb; clear hb; clear qa1 qa2; replace Ba := Aside0.mk (hgr.blk Ba.out); replace Bp := Aside0.mk (hgr.blk Bp.out); replace Br := Aside0.mk (hgr.blk Br.out); replace GR := Aside0.mk (GR.out.nxt hgr rfl rfl rfl rfl); clear hgr; have qa1 := Ba.out.cell 1 rfl; have qa2 := Ba.out.cell 2 rfl; have qa3 := Ba.out.cell 3 rfl; have qa4 := Ba.out.cell 4 rfl; have qp2 := Bp.out.cell 2 rfl; have qp10 := Bp.out.cell 10 rfl; have qp12 := Bp.out.cell 12 rfl)
    | (go_at_call 25; (with_reducible refine (assoc_inside.calls now true _ Hin.out).mono ?_); rintro e w4 ⟨rfl, hb⟩; have hgr := Grew.drawn0 hb; clear hb; clear qa1 qa2 qa3 qa4 qp2 qp10 qp12; replace Ba := Aside0.mk (hgr.blk Ba.out); replace Bp := Aside0.mk (hgr.blk Bp.out); replace Br := Aside0.mk (hgr.blk Br.out); replace GR := Aside0.mk (GR.out.nxt hgr rfl rfl rfl rfl); clear hgr; have qa1 := Ba.out.cell 1 rfl; have qa2 := Ba.out.cell 2 rfl; have qa3 := Ba.out.cell 3 rfl; have qa4 := Ba.out.cell 4 rfl; have qp2 := Bp.out.cell 2 rfl; have qp10 := Bp.out.cell 10 rfl; have qp12 := Bp.out.cell 12 rfl))
  go_quiet (fail)
  go_wp2_with (first
    | ((with_reducible refine gate_store (t := 40) (p := 6) (v := .tmp 63) rfl ?_); refine ev_store rfl rfl 40 (.tmp 6) (.tmp 63) rfl (g := gr) (t := 40) (old := ?_) #[.int .i64 2, .string ⟨#[]⟩, .int .i64 0, .int .i64 0, .int .i64 0, .int .i64 0] ?hx ?hy ?hb ?hi ?ho ?h1 ?_; (case hx => rfl); (case hy => first | rfl | (go_simp; done) | (go_simp; rfl)); (case hb => exact Br.out); (case hi => kernel_rfl); (case ho => rfl); (case h1 => simp [Value.oneCell']); intro w5 hbox hgr; clear qa1 qa2 qa3 qa4 qp2 qp10 qp12; clear Br; have Br := Aside0.mk hbox; clear hbox; replace Ba := Aside0.mk (hgr.blkFar Ba.out Nar.out); replace Bp := Aside0.mk (hgr.blkFar Bp.out Npr.out); replace GR := Aside0.mk (GR.out.nxtOwn hgr Lr.out rfl rfl rfl rfl); clear hgr))
  refine bodyPost_ret (results_cell_row rfl _ _ gr 40 #[.int .i64 2, .string ⟨#[]⟩, .int .i64 0, .int .i64 0, .int .i64 0, .int .i64 0] (0, 0) _ rfl Br.out Try.underlying40 rfl (by kernel_rfl)) rfl ?_
  exact ⟨rfl, GR.out⟩
set_option maxHeartbeats 2000000 in
set_option maxRecDepth 100000 in
theorem heardP_dup (k g : Nat) (w : World) (now ver n0 t0 : Int) (pd : Bool) (xm : Int) (c0 c1 c2 c3 c4 c5 c6 c7 : Int) (p0 p1 p2 p3 p4 p5 p6 p7 p8 p9 p10 p11 p12 : Int) (hb : Blk w g 57 #[.int .i64 ver, .int .u64 n0, .int .i64 t0, .bool true, .int .u64 xm, .int .i64 c0, .int .i64 c1, .int .i64 c2, .int .i64 c3, .int .i64 c4, .int .i64 c5, .int .i64 c6, .int .i64 c7]) (hn : n0 ≠ 0) (hck : ntpmsg_Check.f p0 p1 p2 p3 p4 p5 p6 p7 p8 p9 p10 p11 p12 = some 0) (hm : p2 = 4) (hin : assoc_inside.f now = some true) (hl : ¬ now < t0) (ho : p10 = n0) (hx : p12 ≠ 0) (hd : p12 = xm) : Calls Try.prog 27 #[.pointer (some ⟨g, 0, none⟩), .agg #[.int .i64 p0, .int .i64 p1, .int .i64 p2, .int .i64 p3, .int .i64 p4, .int .i64 p5, .int .u32 p6, .int .u32 p7, .int .u32 p8, .int .u64 p9, .int .u64 p10, .int .u64 p11, .int .u64 p12], .int .i64 now] w fun e w' => e = .returned (.agg #[.int .i64 3, .string ⟨#[]⟩, .int .i64 0, .int .i64 0, .int .i64 0, .int .i64 0]) ∧ Grew w w' none := by
  have GR : Aside0 (Grew w w none) := Aside0.mk (Grew.refl w none)
  have Ba := Aside0.mk hb
  clear hb
  have hn1 : (n0 == 0) = false := beq_eq_false_iff_ne.mpr hn
  have hn2 : (n0 != 0) = true := bne_iff_ne.mpr hn
  have hm1 : (p2 == 4) = true := beq_iff_eq.mpr hm
  have hm2 : (p2 != 4) = false := bne_eq_false_iff_eq.mpr hm
  have hl1 : decide (now < t0) = false := decide_eq_false hl
  have ho1 : (p10 == n0) = true := beq_iff_eq.mpr ho
  have ho2 : (p10 != n0) = false := bne_eq_false_iff_eq.mpr ho
  have hx1 : (p12 == 0) = false := beq_eq_false_iff_ne.mpr hx
  have hx2 : (p12 != 0) = true := bne_iff_ne.mpr hx
  have hd1 : (p12 == xm) = true := beq_iff_eq.mpr hd
  have hd2 : (p12 != xm) = false := bne_eq_false_iff_eq.mpr hd
  have Hck := Aside0.mk hck
  clear hck
  have Hin := Aside0.mk hin
  clear hin
  clear hn
  clear hm
  clear hl
  clear ho
  clear hx
  clear hd
  go_enter Try.func27, Try.ntmps27
  go_wp2_with (first
    | ((with_reducible refine gate_dst (N := 4) rfl ?_); refine ev_box rfl (N := 4) rfl (cs := #[.int .i64 p0, .int .i64 p1, .int .i64 p2, .int .i64 p3, .int .i64 p4, .int .i64 p5, .int .u32 p6, .int .u32 p7, .int .u32 p8, .int .u64 p9, .int .u64 p10, .int .u64 p11, .int .u64 p12]) (t := 31) ?hr ?_; (case hr => first | (go_simp; done) | (go_simp; rfl)); intro gp hle w1 hbox hgr; have Nap := Aside0.mk (hgr.apart Ba.out hle); have Lp := Aside0.mk (GR.out.young hgr rfl hle); clear hle; have Bp := Aside0.mk hbox; clear hbox; replace Ba := Aside0.mk (hgr.blk Ba.out); replace GR := Aside0.mk (GR.out.nxt hgr rfl rfl rfl rfl); clear hgr)
    | ((with_reducible refine gate_dst (N := 6) rfl ?_); refine ev_box rfl (N := 6) rfl (cs := #[.int .i64 0, .string ⟨#[]⟩, .int .i64 0, .int .i64 0, .int .i64 0, .int .i64 0]) (t := 40) ?hr ?_; (case hr => first | (go_simp; done) | (go_simp; rfl)); intro gr hle w2 hbox hgr; have Nar := Aside0.mk (hgr.apart Ba.out hle); have Npr := Aside0.mk (hgr.apart Bp.out hle); have Lr := Aside0.mk (GR.out.young hgr rfl hle); clear hle; have Br := Aside0.mk hbox; clear hbox; replace Ba := Aside0.mk (hgr.blk Ba.out); replace Bp := Aside0.mk (hgr.blk Bp.out); replace GR := Aside0.mk (GR.out.nxt hgr rfl rfl rfl rfl); clear hgr; have qa1 := Ba.out.cell 1 rfl; have qa2 := Ba.out.cell 2 rfl)
    | ((with_reducible refine gate_dst (N := 30) rfl ?_); refine ev_load rfl (N := 30) rfl 31 (.tmp 4) rfl (g := gp) (t := 31) (cs := ?_) _ ?hx ?hb Try.underlying31 rfl ?hi ?_; (case hx => rfl); (case hb => exact Bp.out); (case hi => kernel_rfl))
    | (go_at_call 34; (with_reducible refine (ntpmsg_Check.calls p0 p1 p2 p3 p4 p5 p6 p7 p8 p9 p10 p11 p12 0 _ Hck.out).mono ?_); rintro e w3 ⟨rfl, hb⟩; have hgr := Grew.below (row := none) hb; clear hb; clear qa1 qa2; replace Ba := Aside0.mk (hgr.blk Ba.out); replace Bp := Aside0.mk (hgr.blk Bp.out); replace Br := Aside0.mk (hgr.blk Br.out); replace GR := Aside0.mk (GR.out.nxt hgr rfl rfl rfl rfl); clear hgr; have qa1 := Ba.out.cell 1 rfl; have qa2 := Ba.out.cell 2 rfl; have qa3 := Ba.out.cell 3 rfl; have qa4 := Ba.out.cell 4 rfl; have qp2 := Bp.out.cell 2 rfl; have qp10 := Bp.out.cell 10 rfl; have qp12 := Bp.out.cell 12 rfl)
    | (go_at_call 25; (with_reducible refine (assoc_inside.calls now true _ Hin.out).mono ?_); rintro e w4 ⟨rfl, hb⟩; have hgr := Grew.drawn0 hb; clear hb; clear qa1 qa2 qa3 qa4 qp2 qp10 qp12; replace Ba := Aside0.mk (hgr.blk Ba.out); replace Bp := Aside0.mk (hgr.blk Bp.out); replace Br := Aside0.mk (hgr.blk Br.out); replace GR := Aside0.mk (GR.out.nxt hgr rfl rfl rfl rfl); clear hgr; have qa1 := Ba.out.cell 1 rfl; have qa2 := Ba.out.cell 2 rfl; have qa3 := Ba.out.cell 3 rfl; have qa4 := Ba.out.cell 4 rfl; have qp2 := Bp.out.cell 2 rfl; have qp10 := Bp.out.cell 10 rfl; have qp12 := Bp.out.cell 12 rfl))
  go_quiet (fail)
  go_wp2_with fail
  go_quiet (fail)
  go_wp2_with (first
    | ((with_reducible refine gate_store (t := 40) (p := 6) (v := .tmp 77) rfl ?_); refine ev_store rfl rfl 40 (.tmp 6) (.tmp 77) rfl (g := gr) (t := 40) (old := ?_) #[.int .i64 3, .string ⟨#[]⟩, .int .i64 0, .int .i64 0, .int .i64 0, .int .i64 0] ?hx ?hy ?hb ?hi ?ho ?h1 ?_; (case hx => rfl); (case hy => first | rfl | (go_simp; done) | (go_simp; rfl)); (case hb => exact Br.out); (case hi => kernel_rfl); (case ho => rfl); (case h1 => simp [Value.oneCell']); intro w5 hbox hgr; clear qa1 qa2 qa3 qa4 qp2 qp10 qp12; clear Br; have Br := Aside0.mk hbox; clear hbox; replace Ba := Aside0.mk (hgr.blkFar Ba.out Nar.out); replace Bp := Aside0.mk (hgr.blkFar Bp.out Npr.out); replace GR := Aside0.mk (GR.out.nxtOwn hgr Lr.out rfl rfl rfl rfl); clear hgr))
  refine bodyPost_ret (results_cell_row rfl _ _ gr 40 #[.int .i64 3, .string ⟨#[]⟩, .int .i64 0, .int .i64 0, .int .i64 0, .int .i64 0] (0, 0) _ rfl Br.out Try.underlying40 rfl (by kernel_rfl)) rfl ?_
  exact ⟨rfl, GR.out⟩
set_option maxHeartbeats 2000000 in
set_option maxRecDepth 100000 in
theorem heardP_kissa (k g : Nat) (w : World) (now ver n0 t0 : Int) (pd : Bool) (xm : Int) (c0 c1 c2 c3 c4 c5 c6 c7 : Int) (p0 p1 p2 p3 p4 p5 p6 p7 p8 p9 p10 p11 p12 : Int) (hb : Blk w g 57 #[.int .i64 ver, .int .u64 n0, .int .i64 t0, .bool true, .int .u64 xm, .int .i64 c0, .int .i64 c1, .int .i64 c2, .int .i64 c3, .int .i64 c4, .int .i64 c5, .int .i64 c6, .int .i64 c7]) (hn : n0 ≠ 0) (hck : ntpmsg_Check.f p0 p1 p2 p3 p4 p5 p6 p7 p8 p9 p10 p11 p12 = some 0) (hm : p2 = 4) (hin : assoc_inside.f now = some true) (hl : ¬ now < t0) (ho : p10 = n0) (hx : p12 = 0) (s : ByteArray) (hks : ntpmsg_Kiss.f k p0 p1 p2 p3 p4 p5 p6 p7 p8 p9 p10 p11 p12 = some (s, true)) : Calls Try.prog 27 #[.pointer (some ⟨g, 0, none⟩), .agg #[.int .i64 p0, .int .i64 p1, .int .i64 p2, .int .i64 p3, .int .i64 p4, .int .i64 p5, .int .u32 p6, .int .u32 p7, .int .u32 p8, .int .u64 p9, .int .u64 p10, .int .u64 p11, .int .u64 p12], .int .i64 now] w fun e w' => e = .returned (.agg #[.int .i64 4, .string s, .int .i64 0, .int .i64 0, .int .i64 0, .int .i64 0]) ∧ Grew w w' none := by
  have GR : Aside0 (Grew w w none) := Aside0.mk (Grew.refl w none)
  have Ba := Aside0.mk hb
  clear hb
  have hn1 : (n0 == 0) = false := beq_eq_false_iff_ne.mpr hn
  have hn2 : (n0 != 0) = true := bne_iff_ne.mpr hn
  have hm1 : (p2 == 4) = true := beq_iff_eq.mpr hm
  have hm2 : (p2 != 4) = false := bne_eq_false_iff_eq.mpr hm
  have hl1 : decide (now < t0) = false := decide_eq_false hl
  have ho1 : (p10 == n0) = true := beq_iff_eq.mpr ho
  have ho2 : (p10 != n0) = false := bne_eq_false_iff_eq.mpr ho
  have hx1 : (p12 == 0) = true := beq_iff_eq.mpr hx
  have hx2 : (p12 != 0) = false := bne_eq_false_iff_eq.mpr hx
  have Hck := Aside0.mk hck
  clear hck
  have Hin := Aside0.mk hin
  clear hin
  have Hks := Aside0.mk hks
  clear hks
  clear hn
  clear hm
  clear hl
  clear ho
  clear hx
  go_enter Try.func27, Try.ntmps27
  go_wp2_with (first
    | ((with_reducible refine gate_dst (N := 4) rfl ?_); refine ev_box rfl (N := 4) rfl (cs := #[.int .i64 p0, .int .i64 p1, .int .i64 p2, .int .i64 p3, .int .i64 p4, .int .i64 p5, .int .u32 p6, .int .u32 p7, .int .u32 p8, .int .u64 p9, .int .u64 p10, .int .u64 p11, .int .u64 p12]) (t := 31) ?hr ?_; (case hr => first | (go_simp; done) | (go_simp; rfl)); intro gp hle w1 hbox hgr; have Nap := Aside0.mk (hgr.apart Ba.out hle); have Lp := Aside0.mk (GR.out.young hgr rfl hle); clear hle; have Bp := Aside0.mk hbox; clear hbox; replace Ba := Aside0.mk (hgr.blk Ba.out); replace GR := Aside0.mk (GR.out.nxt hgr rfl rfl rfl rfl); clear hgr)
    | ((with_reducible refine gate_dst (N := 6) rfl ?_); refine ev_box rfl (N := 6) rfl (cs := #[.int .i64 0, .string ⟨#[]⟩, .int .i64 0, .int .i64 0, .int .i64 0, .int .i64 0]) (t := 40) ?hr ?_; (case hr => first | (go_simp; done) | (go_simp; rfl)); intro gr hle w2 hbox hgr; have Nar := Aside0.mk (hgr.apart Ba.out hle); have Npr := Aside0.mk (hgr.apart Bp.out hle); have Lr := Aside0.mk (GR.out.young hgr rfl hle); clear hle; have Br := Aside0.mk hbox; clear hbox; replace Ba := Aside0.mk (hgr.blk Ba.out); replace Bp := Aside0.mk (hgr.blk Bp.out); replace GR := Aside0.mk (GR.out.nxt hgr rfl rfl rfl rfl); clear hgr; have qa1 := Ba.out.cell 1 rfl; have qa2 := Ba.out.cell 2 rfl)
    | ((with_reducible refine gate_dst (N := 30) rfl ?_); refine ev_load rfl (N := 30) rfl 31 (.tmp 4) rfl (g := gp) (t := 31) (cs := ?_) _ ?hx ?hb Try.underlying31 rfl ?hi ?_; (case hx => rfl); (case hb => exact Bp.out); (case hi => kernel_rfl))
    | (go_at_call 34; (with_reducible refine (ntpmsg_Check.calls p0 p1 p2 p3 p4 p5 p6 p7 p8 p9 p10 p11 p12 0 _ Hck.out).mono ?_); rintro e w3 ⟨rfl, hb⟩; have hgr := Grew.below (row := none) hb; clear hb; clear qa1 qa2; replace Ba := Aside0.mk (hgr.blk Ba.out); replace Bp := Aside0.mk (hgr.blk Bp.out); replace Br := Aside0.mk (hgr.blk Br.out); replace GR := Aside0.mk (GR.out.nxt hgr rfl rfl rfl rfl); clear hgr; have qa1 := Ba.out.cell 1 rfl; have qa2 := Ba.out.cell 2 rfl; have qa3 := Ba.out.cell 3 rfl; have qa4 := Ba.out.cell 4 rfl; have qp2 := Bp.out.cell 2 rfl; have qp10 := Bp.out.cell 10 rfl; have qp12 := Bp.out.cell 12 rfl)
    | (go_at_call 25; (with_reducible refine (assoc_inside.calls now true _ Hin.out).mono ?_); rintro e w4 ⟨rfl, hb⟩; have hgr := Grew.drawn0 hb; clear hb; clear qa1 qa2 qa3 qa4 qp2 qp10 qp12; replace Ba := Aside0.mk (hgr.blk Ba.out); replace Bp := Aside0.mk (hgr.blk Bp.out); replace Br := Aside0.mk (hgr.blk Br.out); replace GR := Aside0.mk (GR.out.nxt hgr rfl rfl rfl rfl); clear hgr; have qa1 := Ba.out.cell 1 rfl; have qa2 := Ba.out.cell 2 rfl; have qa3 := Ba.out.cell 3 rfl; have qa4 := Ba.out.cell 4 rfl; have qp2 := Bp.out.cell 2 rfl; have qp10 := Bp.out.cell 10 rfl; have qp12 := Bp.out.cell 12 rfl))
  go_quiet (fail)
  go_wp2_with fail
  go_quiet (fail)
  go_wp2_with (first
    | ((with_reducible refine gate_dst (N := 79) rfl ?_); refine ev_load rfl (N := 79) rfl 31 (.tmp 4) rfl (g := gp) (t := 31) (cs := ?_) _ ?hx ?hb Try.underlying31 rfl ?hi ?_; (case hx => rfl); (case hb => exact Bp.out); (case hi => kernel_rfl))
    | (go_at_call 35; (with_reducible refine (ntpmsg_Kiss.calls k p0 p1 p2 p3 p4 p5 p6 p7 p8 p9 p10 p11 p12 s true _ Hks.out).mono ?_); rintro e w5 ⟨rfl, hb⟩; have hgr := Grew.below (row := none) hb; clear hb; clear qa1 qa2 qa3 qa4 qp2 qp10 qp12; replace Ba := Aside0.mk (hgr.blk Ba.out); replace Bp := Aside0.mk (hgr.blk Bp.out); replace Br := Aside0.mk (hgr.blk Br.out); replace GR := Aside0.mk (GR.out.nxt hgr rfl rfl rfl rfl); clear hgr)
    | ((with_reducible refine gate_store (t := 40) (p := 6) (v := .tmp 85) rfl ?_); refine ev_store rfl rfl 40 (.tmp 6) (.tmp 85) rfl (g := gr) (t := 40) (old := ?_) #[.int .i64 4, .string s, .int .i64 0, .int .i64 0, .int .i64 0, .int .i64 0] ?hx ?hy ?hb ?hi ?ho ?h1 ?_; (case hx => rfl); (case hy => first | rfl | (go_simp; done) | (go_simp; rfl)); (case hb => exact Br.out); (case hi => kernel_rfl); (case ho => rfl); (case h1 => simp [Value.oneCell']); intro w6 hbox hgr; clear Br; have Br := Aside0.mk hbox; clear hbox; replace Ba := Aside0.mk (hgr.blkFar Ba.out Nar.out); replace Bp := Aside0.mk (hgr.blkFar Bp.out Npr.out); replace GR := Aside0.mk (GR.out.nxtOwn hgr Lr.out rfl rfl rfl rfl); clear hgr))
  refine bodyPost_ret (results_cell_row rfl _ _ gr 40 #[.int .i64 4, .string s, .int .i64 0, .int .i64 0, .int .i64 0, .int .i64 0] (0, 0) _ rfl Br.out Try.underlying40 rfl (by kernel_rfl)) rfl ?_
  exact ⟨rfl, GR.out⟩
set_option maxHeartbeats 2000000 in
set_option maxRecDepth 100000 in
theorem heardP_unsynca (k g : Nat) (w : World) (now ver n0 t0 : Int) (pd : Bool) (xm : Int) (c0 c1 c2 c3 c4 c5 c6 c7 : Int) (p0 p1 p2 p3 p4 p5 p6 p7 p8 p9 p10 p11 p12 : Int) (hb : Blk w g 57 #[.int .i64 ver, .int .u64 n0, .int .i64 t0, .bool true, .int .u64 xm, .int .i64 c0, .int .i64 c1, .int .i64 c2, .int .i64 c3, .int .i64 c4, .int .i64 c5, .int .i64 c6, .int .i64 c7]) (hn : n0 ≠ 0) (hck : ntpmsg_Check.f p0 p1 p2 p3 p4 p5 p6 p7 p8 p9 p10 p11 p12 = some 0) (hm : p2 = 4) (hin : assoc_inside.f now = some true) (hl : ¬ now < t0) (ho : p10 = n0) (hx : p12 = 0) (s : ByteArray) (hks : ntpmsg_Kiss.f k p0 p1 p2 p3 p4 p5 p6 p7 p8 p9 p10 p11 p12 = some (s, false)) (hsy : ntpmsg_Synced.f p0 p1 p2 p3 p4 p5 p6 p7 p8 p9 p10 p11 p12 = some false) : Calls Try.prog 27 #[.pointer (some ⟨g, 0, none⟩), .agg #[.int .i64 p0, .int .i64 p1, .int .i64 p2, .int .i64 p3, .int .i64 p4, .int .i64 p5, .int .u32 p6, .int .u32 p7, .int .u32 p8, .int .u64 p9, .int .u64 p10, .int .u64 p11, .int .u64 p12], .int .i64 now] w fun e w' => e = .returned (.agg #[.int .i64 5, .string ⟨#[]⟩, .int .i64 0, .int .i64 0, .int .i64 0, .int .i64 0]) ∧ Grew w w' none := by
  have GR : Aside0 (Grew w w none) := Aside0.mk (Grew.refl w none)
  have Ba := Aside0.mk hb
  clear hb
  have hn1 : (n0 == 0) = false := beq_eq_false_iff_ne.mpr hn
  have hn2 : (n0 != 0) = true := bne_iff_ne.mpr hn
  have hm1 : (p2 == 4) = true := beq_iff_eq.mpr hm
  have hm2 : (p2 != 4) = false := bne_eq_false_iff_eq.mpr hm
  have hl1 : decide (now < t0) = false := decide_eq_false hl
  have ho1 : (p10 == n0) = true := beq_iff_eq.mpr ho
  have ho2 : (p10 != n0) = false := bne_eq_false_iff_eq.mpr ho
  have hx1 : (p12 == 0) = true := beq_iff_eq.mpr hx
  have hx2 : (p12 != 0) = false := bne_eq_false_iff_eq.mpr hx
  have Hck := Aside0.mk hck
  clear hck
  have Hin := Aside0.mk hin
  clear hin
  have Hks := Aside0.mk hks
  clear hks
  have Hsy := Aside0.mk hsy
  clear hsy
  clear hn
  clear hm
  clear hl
  clear ho
  clear hx
  go_enter Try.func27, Try.ntmps27
  go_wp2_with (first
    | ((with_reducible refine gate_dst (N := 4) rfl ?_); refine ev_box rfl (N := 4) rfl (cs := #[.int .i64 p0, .int .i64 p1, .int .i64 p2, .int .i64 p3, .int .i64 p4, .int .i64 p5, .int .u32 p6, .int .u32 p7, .int .u32 p8, .int .u64 p9, .int .u64 p10, .int .u64 p11, .int .u64 p12]) (t := 31) ?hr ?_; (case hr => first | (go_simp; done) | (go_simp; rfl)); intro gp hle w1 hbox hgr; have Nap := Aside0.mk (hgr.apart Ba.out hle); have Lp := Aside0.mk (GR.out.young hgr rfl hle); clear hle; have Bp := Aside0.mk hbox; clear hbox; replace Ba := Aside0.mk (hgr.blk Ba.out); replace GR := Aside0.mk (GR.out.nxt hgr rfl rfl rfl rfl); clear hgr)
    | ((with_reducible refine gate_dst (N := 6) rfl ?_); refine ev_box rfl (N := 6) rfl (cs := #[.int .i64 0, .string ⟨#[]⟩, .int .i64 0, .int .i64 0, .int .i64 0, .int .i64 0]) (t := 40) ?hr ?_; (case hr => first | (go_simp; done) | (go_simp; rfl)); intro gr hle w2 hbox hgr; have Nar := Aside0.mk (hgr.apart Ba.out hle); have Npr := Aside0.mk (hgr.apart Bp.out hle); have Lr := Aside0.mk (GR.out.young hgr rfl hle); clear hle; have Br := Aside0.mk hbox; clear hbox; replace Ba := Aside0.mk (hgr.blk Ba.out); replace Bp := Aside0.mk (hgr.blk Bp.out); replace GR := Aside0.mk (GR.out.nxt hgr rfl rfl rfl rfl); clear hgr; have qa1 := Ba.out.cell 1 rfl; have qa2 := Ba.out.cell 2 rfl)
    | ((with_reducible refine gate_dst (N := 30) rfl ?_); refine ev_load rfl (N := 30) rfl 31 (.tmp 4) rfl (g := gp) (t := 31) (cs := ?_) _ ?hx ?hb Try.underlying31 rfl ?hi ?_; (case hx => rfl); (case hb => exact Bp.out); (case hi => kernel_rfl))
    | (go_at_call 34; (with_reducible refine (ntpmsg_Check.calls p0 p1 p2 p3 p4 p5 p6 p7 p8 p9 p10 p11 p12 0 _ Hck.out).mono ?_); rintro e w3 ⟨rfl, hb⟩; have hgr := Grew.below (row := none) hb; clear hb; clear qa1 qa2; replace Ba := Aside0.mk (hgr.blk Ba.out); replace Bp := Aside0.mk (hgr.blk Bp.out); replace Br := Aside0.mk (hgr.blk Br.out); replace GR := Aside0.mk (GR.out.nxt hgr rfl rfl rfl rfl); clear hgr; have qa1 := Ba.out.cell 1 rfl; have qa2 := Ba.out.cell 2 rfl; have qa3 := Ba.out.cell 3 rfl; have qa4 := Ba.out.cell 4 rfl; have qp2 := Bp.out.cell 2 rfl; have qp10 := Bp.out.cell 10 rfl; have qp12 := Bp.out.cell 12 rfl)
    | (go_at_call 25; (with_reducible refine (assoc_inside.calls now true _ Hin.out).mono ?_); rintro e w4 ⟨rfl, hb⟩; have hgr := Grew.drawn0 hb; clear hb; clear qa1 qa2 qa3 qa4 qp2 qp10 qp12; replace Ba := Aside0.mk (hgr.blk Ba.out); replace Bp := Aside0.mk (hgr.blk Bp.out); replace Br := Aside0.mk (hgr.blk Br.out); replace GR := Aside0.mk (GR.out.nxt hgr rfl rfl rfl rfl); clear hgr; have qa1 := Ba.out.cell 1 rfl; have qa2 := Ba.out.cell 2 rfl; have qa3 := Ba.out.cell 3 rfl; have qa4 := Ba.out.cell 4 rfl; have qp2 := Bp.out.cell 2 rfl; have qp10 := Bp.out.cell 10 rfl; have qp12 := Bp.out.cell 12 rfl))
  go_quiet (fail)
  go_wp2_with fail
  go_quiet (fail)
  go_wp2_with (first
    | ((with_reducible refine gate_dst (N := 79) rfl ?_); refine ev_load rfl (N := 79) rfl 31 (.tmp 4) rfl (g := gp) (t := 31) (cs := ?_) _ ?hx ?hb Try.underlying31 rfl ?hi ?_; (case hx => rfl); (case hb => exact Bp.out); (case hi => kernel_rfl))
    | (go_at_call 35; (with_reducible refine (ntpmsg_Kiss.calls k p0 p1 p2 p3 p4 p5 p6 p7 p8 p9 p10 p11 p12 s false _ Hks.out).mono ?_); rintro e w5 ⟨rfl, hb⟩; have hgr := Grew.below (row := none) hb; clear hb; clear qa1 qa2 qa3 qa4 qp2 qp10 qp12; replace Ba := Aside0.mk (hgr.blk Ba.out); replace Bp := Aside0.mk (hgr.blk Bp.out); replace Br := Aside0.mk (hgr.blk Br.out); replace GR := Aside0.mk (GR.out.nxt hgr rfl rfl rfl rfl); clear hgr)
    | ((with_reducible refine gate_dst (N := 86) rfl ?_); refine ev_load rfl (N := 86) rfl 31 (.tmp 4) rfl (g := gp) (t := 31) (cs := ?_) _ ?hx ?hb Try.underlying31 rfl ?hi ?_; (case hx => rfl); (case hb => exact Bp.out); (case hi => kernel_rfl))
    | (go_at_call 36; (with_reducible refine (ntpmsg_Synced.calls p0 p1 p2 p3 p4 p5 p6 p7 p8 p9 p10 p11 p12 false _ Hsy.out).mono ?_); rintro e w6 ⟨rfl, hb⟩; have hgr := Grew.below (row := none) hb; clear hb; replace Ba := Aside0.mk (hgr.blk Ba.out); replace Bp := Aside0.mk (hgr.blk Bp.out); replace Br := Aside0.mk (hgr.blk Br.out); replace GR := Aside0.mk (GR.out.nxt hgr rfl rfl rfl rfl); clear hgr; have qp11 := Bp.out.cell 11 rfl; have qp12 := Bp.out.cell 12 rfl; have qa2 := Ba.out.cell 2 rfl)
    | ((with_reducible refine gate_store (t := 40) (p := 6) (v := .tmp 89) rfl ?_); refine ev_store rfl rfl 40 (.tmp 6) (.tmp 89) rfl (g := gr) (t := 40) (old := ?_) #[.int .i64 5, .string ⟨#[]⟩, .int .i64 0, .int .i64 0, .int .i64 0, .int .i64 0] ?hx ?hy ?hb ?hi ?ho ?h1 ?_; (case hx => rfl); (case hy => first | rfl | (go_simp; done) | (go_simp; rfl)); (case hb => exact Br.out); (case hi => kernel_rfl); (case ho => rfl); (case h1 => simp [Value.oneCell']); intro w7 hbox hgr; clear qp11 qp12 qa2; clear Br; have Br := Aside0.mk hbox; clear hbox; replace Ba := Aside0.mk (hgr.blkFar Ba.out Nar.out); replace Bp := Aside0.mk (hgr.blkFar Bp.out Npr.out); replace GR := Aside0.mk (GR.out.nxtOwn hgr Lr.out rfl rfl rfl rfl); clear hgr))
  refine bodyPost_ret (results_cell_row rfl _ _ gr 40 #[.int .i64 5, .string ⟨#[]⟩, .int .i64 0, .int .i64 0, .int .i64 0, .int .i64 0] (0, 0) _ rfl Br.out Try.underlying40 rfl (by kernel_rfl)) rfl ?_
  exact ⟨rfl, GR.out⟩
set_option maxHeartbeats 2000000 in
set_option maxRecDepth 100000 in
theorem heardP_time1a (k g : Nat) (w : World) (now ver n0 t0 : Int) (pd : Bool) (xm : Int) (c0 c1 c2 c3 c4 c5 c6 c7 : Int) (p0 p1 p2 p3 p4 p5 p6 p7 p8 p9 p10 p11 p12 : Int) (hb : Blk w g 57 #[.int .i64 ver, .int .u64 n0, .int .i64 t0, .bool true, .int .u64 xm, .int .i64 c0, .int .i64 c1, .int .i64 c2, .int .i64 c3, .int .i64 c4, .int .i64 c5, .int .i64 c6, .int .i64 c7]) (hn : n0 ≠ 0) (hck : ntpmsg_Check.f p0 p1 p2 p3 p4 p5 p6 p7 p8 p9 p10 p11 p12 = some 0) (hm : p2 = 4) (hin : assoc_inside.f now = some true) (hl : ¬ now < t0) (ho : p10 = n0) (hx : p12 = 0) (s : ByteArray) (hks : ntpmsg_Kiss.f k p0 p1 p2 p3 p4 p5 p6 p7 p8 p9 p10 p11 p12 = some (s, false)) (hsy : ntpmsg_Synced.f p0 p1 p2 p3 p4 p5 p6 p7 p8 p9 p10 p11 p12 = some true) (t2 t3 : Int) (ok3 : Bool) (hf2 : assoc_found.f k p11 now = some (t2, false)) (hf3 : assoc_found.f k p12 now = some (t3, ok3)) : Calls Try.prog 27 #[.pointer (some ⟨g, 0, none⟩), .agg #[.int .i64 p0, .int .i64 p1, .int .i64 p2, .int .i64 p3, .int .i64 p4, .int .i64 p5, .int .u32 p6, .int .u32 p7, .int .u32 p8, .int .u64 p9, .int .u64 p10, .int .u64 p11, .int .u64 p12], .int .i64 now] w fun e w' => e = .returned (.agg #[.int .i64 6, .string ⟨#[]⟩, .int .i64 0, .int .i64 0, .int .i64 0, .int .i64 0]) ∧ Grew w w' none := by
  have GR : Aside0 (Grew w w none) := Aside0.mk (Grew.refl w none)
  have Ba := Aside0.mk hb
  clear hb
  have hn1 : (n0 == 0) = false := beq_eq_false_iff_ne.mpr hn
  have hn2 : (n0 != 0) = true := bne_iff_ne.mpr hn
  have hm1 : (p2 == 4) = true := beq_iff_eq.mpr hm
  have hm2 : (p2 != 4) = false := bne_eq_false_iff_eq.mpr hm
  have hl1 : decide (now < t0) = false := decide_eq_false hl
  have ho1 : (p10 == n0) = true := beq_iff_eq.mpr ho
  have ho2 : (p10 != n0) = false := bne_eq_false_iff_eq.mpr ho
  have hx1 : (p12 == 0) = true := beq_iff_eq.mpr hx
  have hx2 : (p12 != 0) = false := bne_eq_false_iff_eq.mpr hx
  have Hck := Aside0.mk hck
  clear hck
  have Hin := Aside0.mk hin
  clear hin
  have Hks := Aside0.mk hks
  clear hks
  have Hsy := Aside0.mk hsy
  clear hsy
  have Hf2 := Aside0.mk hf2
  clear hf2
  have Hf3 := Aside0.mk hf3
  clear hf3
  clear hn
  clear hm
  clear hl
  clear ho
  clear hx
  go_enter Try.func27, Try.ntmps27
  go_wp2_with (first
    | ((with_reducible refine gate_dst (N := 4) rfl ?_); refine ev_box rfl (N := 4) rfl (cs := #[.int .i64 p0, .int .i64 p1, .int .i64 p2, .int .i64 p3, .int .i64 p4, .int .i64 p5, .int .u32 p6, .int .u32 p7, .int .u32 p8, .int .u64 p9, .int .u64 p10, .int .u64 p11, .int .u64 p12]) (t := 31) ?hr ?_; (case hr => first | (go_simp; done) | (go_simp; rfl)); intro gp hle w1 hbox hgr; have Nap := Aside0.mk (hgr.apart Ba.out hle); have Lp := Aside0.mk (GR.out.young hgr rfl hle); clear hle; have Bp := Aside0.mk hbox; clear hbox; replace Ba := Aside0.mk (hgr.blk Ba.out); replace GR := Aside0.mk (GR.out.nxt hgr rfl rfl rfl rfl); clear hgr)
    | ((with_reducible refine gate_dst (N := 6) rfl ?_); refine ev_box rfl (N := 6) rfl (cs := #[.int .i64 0, .string ⟨#[]⟩, .int .i64 0, .int .i64 0, .int .i64 0, .int .i64 0]) (t := 40) ?hr ?_; (case hr => first | (go_simp; done) | (go_simp; rfl)); intro gr hle w2 hbox hgr; have Nar := Aside0.mk (hgr.apart Ba.out hle); have Npr := Aside0.mk (hgr.apart Bp.out hle); have Lr := Aside0.mk (GR.out.young hgr rfl hle); clear hle; have Br := Aside0.mk hbox; clear hbox; replace Ba := Aside0.mk (hgr.blk Ba.out); replace Bp := Aside0.mk (hgr.blk Bp.out); replace GR := Aside0.mk (GR.out.nxt hgr rfl rfl rfl rfl); clear hgr; have qa1 := Ba.out.cell 1 rfl; have qa2 := Ba.out.cell 2 rfl)
    | ((with_reducible refine gate_dst (N := 30) rfl ?_); refine ev_load rfl (N := 30) rfl 31 (.tmp 4) rfl (g := gp) (t := 31) (cs := ?_) _ ?hx ?hb Try.underlying31 rfl ?hi ?_; (case hx => rfl); (case hb => exact Bp.out); (case hi => kernel_rfl))
    | (go_at_call 34; (with_reducible refine (ntpmsg_Check.calls p0 p1 p2 p3 p4 p5 p6 p7 p8 p9 p10 p11 p12 0 _ Hck.out).mono ?_); rintro e w3 ⟨rfl, hb⟩; have hgr := Grew.below (row := none) hb; clear hb; clear qa1 qa2; replace Ba := Aside0.mk (hgr.blk Ba.out); replace Bp := Aside0.mk (hgr.blk Bp.out); replace Br := Aside0.mk (hgr.blk Br.out); replace GR := Aside0.mk (GR.out.nxt hgr rfl rfl rfl rfl); clear hgr; have qa1 := Ba.out.cell 1 rfl; have qa2 := Ba.out.cell 2 rfl; have qa3 := Ba.out.cell 3 rfl; have qa4 := Ba.out.cell 4 rfl; have qp2 := Bp.out.cell 2 rfl; have qp10 := Bp.out.cell 10 rfl; have qp12 := Bp.out.cell 12 rfl)
    | (go_at_call 25; (with_reducible refine (assoc_inside.calls now true _ Hin.out).mono ?_); rintro e w4 ⟨rfl, hb⟩; have hgr := Grew.drawn0 hb; clear hb; clear qa1 qa2 qa3 qa4 qp2 qp10 qp12; replace Ba := Aside0.mk (hgr.blk Ba.out); replace Bp := Aside0.mk (hgr.blk Bp.out); replace Br := Aside0.mk (hgr.blk Br.out); replace GR := Aside0.mk (GR.out.nxt hgr rfl rfl rfl rfl); clear hgr; have qa1 := Ba.out.cell 1 rfl; have qa2 := Ba.out.cell 2 rfl; have qa3 := Ba.out.cell 3 rfl; have qa4 := Ba.out.cell 4 rfl; have qp2 := Bp.out.cell 2 rfl; have qp10 := Bp.out.cell 10 rfl; have qp12 := Bp.out.cell 12 rfl))
  go_quiet (fail)
  go_wp2_with fail
  go_quiet (fail)
  go_wp2_with (first
    | ((with_reducible refine gate_dst (N := 79) rfl ?_); refine ev_load rfl (N := 79) rfl 31 (.tmp 4) rfl (g := gp) (t := 31) (cs := ?_) _ ?hx ?hb Try.underlying31 rfl ?hi ?_; (case hx => rfl); (case hb => exact Bp.out); (case hi => kernel_rfl))
    | (go_at_call 35; (with_reducible refine (ntpmsg_Kiss.calls k p0 p1 p2 p3 p4 p5 p6 p7 p8 p9 p10 p11 p12 s false _ Hks.out).mono ?_); rintro e w5 ⟨rfl, hb⟩; have hgr := Grew.below (row := none) hb; clear hb; clear qa1 qa2 qa3 qa4 qp2 qp10 qp12; replace Ba := Aside0.mk (hgr.blk Ba.out); replace Bp := Aside0.mk (hgr.blk Bp.out); replace Br := Aside0.mk (hgr.blk Br.out); replace GR := Aside0.mk (GR.out.nxt hgr rfl rfl rfl rfl); clear hgr)
    | ((with_reducible refine gate_dst (N := 86) rfl ?_); refine ev_load rfl (N := 86) rfl 31 (.tmp 4) rfl (g := gp) (t := 31) (cs := ?_) _ ?hx ?hb Try.underlying31 rfl ?hi ?_; (case hx => rfl); (case hb => exact Bp.out); (case hi => kernel_rfl))
    | (go_at_call 36; (with_reducible refine (ntpmsg_Synced.calls p0 p1 p2 p3 p4 p5 p6 p7 p8 p9 p10 p11 p12 true _ Hsy.out).mono ?_); rintro e w6 ⟨rfl, hb⟩; have hgr := Grew.below (row := none) hb; clear hb; replace Ba := Aside0.mk (hgr.blk Ba.out); replace Bp := Aside0.mk (hgr.blk Bp.out); replace Br := Aside0.mk (hgr.blk Br.out); replace GR := Aside0.mk (GR.out.nxt hgr rfl rfl rfl rfl); clear hgr; have qp11 := Bp.out.cell 11 rfl; have qp12 := Bp.out.cell 12 rfl; have qa2 := Ba.out.cell 2 rfl)
    | (go_at_call 37; (with_reducible refine (assoc_found.calls k p11 now t2 false _ Hf2.out).mono ?_); rintro e w7 ⟨rfl, hb⟩; have hgr := Grew.drawn0 hb; clear hb; clear qp11 qp12 qa2; replace Ba := Aside0.mk (hgr.blk Ba.out); replace Bp := Aside0.mk (hgr.blk Bp.out); replace Br := Aside0.mk (hgr.blk Br.out); replace GR := Aside0.mk (GR.out.nxt hgr rfl rfl rfl rfl); clear hgr; have qp11 := Bp.out.cell 11 rfl; have qp12 := Bp.out.cell 12 rfl; have qa2 := Ba.out.cell 2 rfl)
    | (go_at_call 37; (with_reducible refine (assoc_found.calls k p12 now t3 ok3 _ Hf3.out).mono ?_); rintro e w8 ⟨rfl, hb⟩; have hgr := Grew.drawn0 hb; clear hb; clear qp11 qp12 qa2; replace Ba := Aside0.mk (hgr.blk Ba.out); replace Bp := Aside0.mk (hgr.blk Bp.out); replace Br := Aside0.mk (hgr.blk Br.out); replace GR := Aside0.mk (GR.out.nxt hgr rfl rfl rfl rfl); clear hgr; have qa2 := Ba.out.cell 2 rfl)
    | ((with_reducible refine gate_store (t := 40) (p := 6) (v := .tmp 115) rfl ?_); refine ev_store rfl rfl 40 (.tmp 6) (.tmp 115) rfl (g := gr) (t := 40) (old := ?_) #[.int .i64 6, .string ⟨#[]⟩, .int .i64 0, .int .i64 0, .int .i64 0, .int .i64 0] ?hx ?hy ?hb ?hi ?ho ?h1 ?_; (case hx => rfl); (case hy => first | rfl | (go_simp; done) | (go_simp; rfl)); (case hb => exact Br.out); (case hi => kernel_rfl); (case ho => rfl); (case h1 => simp [Value.oneCell']); intro w9 hbox hgr; clear qa2; clear Br; have Br := Aside0.mk hbox; clear hbox; replace Ba := Aside0.mk (hgr.blkFar Ba.out Nar.out); replace Bp := Aside0.mk (hgr.blkFar Bp.out Npr.out); replace GR := Aside0.mk (GR.out.nxtOwn hgr Lr.out rfl rfl rfl rfl); clear hgr))
  refine bodyPost_ret (results_cell_row rfl _ _ gr 40 #[.int .i64 6, .string ⟨#[]⟩, .int .i64 0, .int .i64 0, .int .i64 0, .int .i64 0] (0, 0) _ rfl Br.out Try.underlying40 rfl (by kernel_rfl)) rfl ?_
  exact ⟨rfl, GR.out⟩
set_option maxHeartbeats 2000000 in
set_option maxRecDepth 100000 in
theorem heardP_time2a (k g : Nat) (w : World) (now ver n0 t0 : Int) (pd : Bool) (xm : Int) (c0 c1 c2 c3 c4 c5 c6 c7 : Int) (p0 p1 p2 p3 p4 p5 p6 p7 p8 p9 p10 p11 p12 : Int) (hb : Blk w g 57 #[.int .i64 ver, .int .u64 n0, .int .i64 t0, .bool true, .int .u64 xm, .int .i64 c0, .int .i64 c1, .int .i64 c2, .int .i64 c3, .int .i64 c4, .int .i64 c5, .int .i64 c6, .int .i64 c7]) (hn : n0 ≠ 0) (hck : ntpmsg_Check.f p0 p1 p2 p3 p4 p5 p6 p7 p8 p9 p10 p11 p12 = some 0) (hm : p2 = 4) (hin : assoc_inside.f now = some true) (hl : ¬ now < t0) (ho : p10 = n0) (hx : p12 = 0) (s : ByteArray) (hks : ntpmsg_Kiss.f k p0 p1 p2 p3 p4 p5 p6 p7 p8 p9 p10 p11 p12 = some (s, false)) (hsy : ntpmsg_Synced.f p0 p1 p2 p3 p4 p5 p6 p7 p8 p9 p10 p11 p12 = some true) (t2 t3 : Int) (hf2 : assoc_found.f k p11 now = some (t2, true)) (hf3 : assoc_found.f k p12 now = some (t3, false)) : Calls Try.prog 27 #[.pointer (some ⟨g, 0, none⟩), .agg #[.int .i64 p0, .int .i64 p1, .int .i64 p2, .int .i64 p3, .int .i64 p4, .int .i64 p5, .int .u32 p6, .int .u32 p7, .int .u32 p8, .int .u64 p9, .int .u64 p10, .int .u64 p11, .int .u64 p12], .int .i64 now] w fun e w' => e = .returned (.agg #[.int .i64 6, .string ⟨#[]⟩, .int .i64 0, .int .i64 0, .int .i64 0, .int .i64 0]) ∧ Grew w w' none := by
  have GR : Aside0 (Grew w w none) := Aside0.mk (Grew.refl w none)
  have Ba := Aside0.mk hb
  clear hb
  have hn1 : (n0 == 0) = false := beq_eq_false_iff_ne.mpr hn
  have hn2 : (n0 != 0) = true := bne_iff_ne.mpr hn
  have hm1 : (p2 == 4) = true := beq_iff_eq.mpr hm
  have hm2 : (p2 != 4) = false := bne_eq_false_iff_eq.mpr hm
  have hl1 : decide (now < t0) = false := decide_eq_false hl
  have ho1 : (p10 == n0) = true := beq_iff_eq.mpr ho
  have ho2 : (p10 != n0) = false := bne_eq_false_iff_eq.mpr ho
  have hx1 : (p12 == 0) = true := beq_iff_eq.mpr hx
  have hx2 : (p12 != 0) = false := bne_eq_false_iff_eq.mpr hx
  have Hck := Aside0.mk hck
  clear hck
  have Hin := Aside0.mk hin
  clear hin
  have Hks := Aside0.mk hks
  clear hks
  have Hsy := Aside0.mk hsy
  clear hsy
  have Hf2 := Aside0.mk hf2
  clear hf2
  have Hf3 := Aside0.mk hf3
  clear hf3
  clear hn
  clear hm
  clear hl
  clear ho
  clear hx
  go_enter Try.func27, Try.ntmps27
  go_wp2_with (first
    | ((with_reducible refine gate_dst (N := 4) rfl ?_); refine ev_box rfl (N := 4) rfl (cs := #[.int .i64 p0, .int .i64 p1, .int .i64 p2, .int .i64 p3, .int .i64 p4, .int .i64 p5, .int .u32 p6, .int .u32 p7, .int .u32 p8, .int .u64 p9, .int .u64 p10, .int .u64 p11, .int .u64 p12]) (t := 31) ?hr ?_; (case hr => first | (go_simp; done) | (go_simp; rfl)); intro gp hle w1 hbox hgr; have Nap := Aside0.mk (hgr.apart Ba.out hle); have Lp := Aside0.mk (GR.out.young hgr rfl hle); clear hle; have Bp := Aside0.mk hbox; clear hbox; replace Ba := Aside0.mk (hgr.blk Ba.out); replace GR := Aside0.mk (GR.out.nxt hgr rfl rfl rfl rfl); clear hgr)
    | ((with_reducible refine gate_dst (N := 6) rfl ?_); refine ev_box rfl (N := 6) rfl (cs := #[.int .i64 0, .string ⟨#[]⟩, .int .i64 0, .int .i64 0, .int .i64 0, .int .i64 0]) (t := 40) ?hr ?_; (case hr => first | (go_simp; done) | (go_simp; rfl)); intro gr hle w2 hbox hgr; have Nar := Aside0.mk (hgr.apart Ba.out hle); have Npr := Aside0.mk (hgr.apart Bp.out hle); have Lr := Aside0.mk (GR.out.young hgr rfl hle); clear hle; have Br := Aside0.mk hbox; clear hbox; replace Ba := Aside0.mk (hgr.blk Ba.out); replace Bp := Aside0.mk (hgr.blk Bp.out); replace GR := Aside0.mk (GR.out.nxt hgr rfl rfl rfl rfl); clear hgr; have qa1 := Ba.out.cell 1 rfl; have qa2 := Ba.out.cell 2 rfl)
    | ((with_reducible refine gate_dst (N := 30) rfl ?_); refine ev_load rfl (N := 30) rfl 31 (.tmp 4) rfl (g := gp) (t := 31) (cs := ?_) _ ?hx ?hb Try.underlying31 rfl ?hi ?_; (case hx => rfl); (case hb => exact Bp.out); (case hi => kernel_rfl))
    | (go_at_call 34; (with_reducible refine (ntpmsg_Check.calls p0 p1 p2 p3 p4 p5 p6 p7 p8 p9 p10 p11 p12 0 _ Hck.out).mono ?_); rintro e w3 ⟨rfl, hb⟩; have hgr := Grew.below (row := none) hb; clear hb; clear qa1 qa2; replace Ba := Aside0.mk (hgr.blk Ba.out); replace Bp := Aside0.mk (hgr.blk Bp.out); replace Br := Aside0.mk (hgr.blk Br.out); replace GR := Aside0.mk (GR.out.nxt hgr rfl rfl rfl rfl); clear hgr; have qa1 := Ba.out.cell 1 rfl; have qa2 := Ba.out.cell 2 rfl; have qa3 := Ba.out.cell 3 rfl; have qa4 := Ba.out.cell 4 rfl; have qp2 := Bp.out.cell 2 rfl; have qp10 := Bp.out.cell 10 rfl; have qp12 := Bp.out.cell 12 rfl)
    | (go_at_call 25; (with_reducible refine (assoc_inside.calls now true _ Hin.out).mono ?_); rintro e w4 ⟨rfl, hb⟩; have hgr := Grew.drawn0 hb; clear hb; clear qa1 qa2 qa3 qa4 qp2 qp10 qp12; replace Ba := Aside0.mk (hgr.blk Ba.out); replace Bp := Aside0.mk (hgr.blk Bp.out); replace Br := Aside0.mk (hgr.blk Br.out); replace GR := Aside0.mk (GR.out.nxt hgr rfl rfl rfl rfl); clear hgr; have qa1 := Ba.out.cell 1 rfl; have qa2 := Ba.out.cell 2 rfl; have qa3 := Ba.out.cell 3 rfl; have qa4 := Ba.out.cell 4 rfl; have qp2 := Bp.out.cell 2 rfl; have qp10 := Bp.out.cell 10 rfl; have qp12 := Bp.out.cell 12 rfl))
  go_quiet (fail)
  go_wp2_with fail
  go_quiet (fail)
  go_wp2_with (first
    | ((with_reducible refine gate_dst (N := 79) rfl ?_); refine ev_load rfl (N := 79) rfl 31 (.tmp 4) rfl (g := gp) (t := 31) (cs := ?_) _ ?hx ?hb Try.underlying31 rfl ?hi ?_; (case hx => rfl); (case hb => exact Bp.out); (case hi => kernel_rfl))
    | (go_at_call 35; (with_reducible refine (ntpmsg_Kiss.calls k p0 p1 p2 p3 p4 p5 p6 p7 p8 p9 p10 p11 p12 s false _ Hks.out).mono ?_); rintro e w5 ⟨rfl, hb⟩; have hgr := Grew.below (row := none) hb; clear hb; clear qa1 qa2 qa3 qa4 qp2 qp10 qp12; replace Ba := Aside0.mk (hgr.blk Ba.out); replace Bp := Aside0.mk (hgr.blk Bp.out); replace Br := Aside0.mk (hgr.blk Br.out); replace GR := Aside0.mk (GR.out.nxt hgr rfl rfl rfl rfl); clear hgr)
    | ((with_reducible refine gate_dst (N := 86) rfl ?_); refine ev_load rfl (N := 86) rfl 31 (.tmp 4) rfl (g := gp) (t := 31) (cs := ?_) _ ?hx ?hb Try.underlying31 rfl ?hi ?_; (case hx => rfl); (case hb => exact Bp.out); (case hi => kernel_rfl))
    | (go_at_call 36; (with_reducible refine (ntpmsg_Synced.calls p0 p1 p2 p3 p4 p5 p6 p7 p8 p9 p10 p11 p12 true _ Hsy.out).mono ?_); rintro e w6 ⟨rfl, hb⟩; have hgr := Grew.below (row := none) hb; clear hb; replace Ba := Aside0.mk (hgr.blk Ba.out); replace Bp := Aside0.mk (hgr.blk Bp.out); replace Br := Aside0.mk (hgr.blk Br.out); replace GR := Aside0.mk (GR.out.nxt hgr rfl rfl rfl rfl); clear hgr; have qp11 := Bp.out.cell 11 rfl; have qp12 := Bp.out.cell 12 rfl; have qa2 := Ba.out.cell 2 rfl)
    | (go_at_call 37; (with_reducible refine (assoc_found.calls k p11 now t2 true _ Hf2.out).mono ?_); rintro e w7 ⟨rfl, hb⟩; have hgr := Grew.drawn0 hb; clear hb; clear qp11 qp12 qa2; replace Ba := Aside0.mk (hgr.blk Ba.out); replace Bp := Aside0.mk (hgr.blk Bp.out); replace Br := Aside0.mk (hgr.blk Br.out); replace GR := Aside0.mk (GR.out.nxt hgr rfl rfl rfl rfl); clear hgr; have qp11 := Bp.out.cell 11 rfl; have qp12 := Bp.out.cell 12 rfl; have qa2 := Ba.out.cell 2 rfl)
    | (go_at_call 37; (with_reducible refine (assoc_found.calls k p12 now t3 false _ Hf3.out).mono ?_); rintro e w8 ⟨rfl, hb⟩; have hgr := Grew.drawn0 hb; clear hb; clear qp11 qp12 qa2; replace Ba := Aside0.mk (hgr.blk Ba.out); replace Bp := Aside0.mk (hgr.blk Bp.out); replace Br := Aside0.mk (hgr.blk Br.out); replace GR := Aside0.mk (GR.out.nxt hgr rfl rfl rfl rfl); clear hgr; have qa2 := Ba.out.cell 2 rfl)
    | ((with_reducible refine gate_store (t := 40) (p := 6) (v := .tmp 115) rfl ?_); refine ev_store rfl rfl 40 (.tmp 6) (.tmp 115) rfl (g := gr) (t := 40) (old := ?_) #[.int .i64 6, .string ⟨#[]⟩, .int .i64 0, .int .i64 0, .int .i64 0, .int .i64 0] ?hx ?hy ?hb ?hi ?ho ?h1 ?_; (case hx => rfl); (case hy => first | rfl | (go_simp; done) | (go_simp; rfl)); (case hb => exact Br.out); (case hi => kernel_rfl); (case ho => rfl); (case h1 => simp [Value.oneCell']); intro w9 hbox hgr; clear qa2; clear Br; have Br := Aside0.mk hbox; clear hbox; replace Ba := Aside0.mk (hgr.blkFar Ba.out Nar.out); replace Bp := Aside0.mk (hgr.blkFar Bp.out Npr.out); replace GR := Aside0.mk (GR.out.nxtOwn hgr Lr.out rfl rfl rfl rfl); clear hgr))
  refine bodyPost_ret (results_cell_row rfl _ _ gr 40 #[.int .i64 6, .string ⟨#[]⟩, .int .i64 0, .int .i64 0, .int .i64 0, .int .i64 0] (0, 0) _ rfl Br.out Try.underlying40 rfl (by kernel_rfl)) rfl ?_
  exact ⟨rfl, GR.out⟩
set_option maxHeartbeats 2000000 in
set_option maxRecDepth 100000 in
theorem heardP_time3a (k g : Nat) (w : World) (now ver n0 t0 : Int) (pd : Bool) (xm : Int) (c0 c1 c2 c3 c4 c5 c6 c7 : Int) (p0 p1 p2 p3 p4 p5 p6 p7 p8 p9 p10 p11 p12 : Int) (hb : Blk w g 57 #[.int .i64 ver, .int .u64 n0, .int .i64 t0, .bool true, .int .u64 xm, .int .i64 c0, .int .i64 c1, .int .i64 c2, .int .i64 c3, .int .i64 c4, .int .i64 c5, .int .i64 c6, .int .i64 c7]) (hn : n0 ≠ 0) (hck : ntpmsg_Check.f p0 p1 p2 p3 p4 p5 p6 p7 p8 p9 p10 p11 p12 = some 0) (hm : p2 = 4) (hin : assoc_inside.f now = some true) (hl : ¬ now < t0) (ho : p10 = n0) (hx : p12 = 0) (s : ByteArray) (hks : ntpmsg_Kiss.f k p0 p1 p2 p3 p4 p5 p6 p7 p8 p9 p10 p11 p12 = some (s, false)) (hsy : ntpmsg_Synced.f p0 p1 p2 p3 p4 p5 p6 p7 p8 p9 p10 p11 p12 = some true) (t2 t3 : Int) (hf2 : assoc_found.f k p11 now = some (t2, true)) (hf3 : assoc_found.f k p12 now = some (t3, true)) (ht : t3 < t2) : Calls Try.prog 27 #[.pointer (some ⟨g, 0, none⟩), .agg #[.int .i64 p0, .int .i64 p1, .int .i64 p2, .int .i64 p3, .int .i64 p4, .int .i64 p5, .int .u32 p6, .int .u32 p7, .int .u32 p8, .int .u64 p9, .int .u64 p10, .int .u64 p11, .int .u64 p12], .int .i64 now] w fun e w' => e = .returned (.agg #[.int .i64 6, .string ⟨#[]⟩, .int .i64 0, .int .i64 0, .int .i64 0, .int .i64 0]) ∧ Grew w w' none := by
  have GR : Aside0 (Grew w w none) := Aside0.mk (Grew.refl w none)
  have Ba := Aside0.mk hb
  clear hb
  have hn1 : (n0 == 0) = false := beq_eq_false_iff_ne.mpr hn
  have hn2 : (n0 != 0) = true := bne_iff_ne.mpr hn
  have hm1 : (p2 == 4) = true := beq_iff_eq.mpr hm
  have hm2 : (p2 != 4) = false := bne_eq_false_iff_eq.mpr hm
  have hl1 : decide (now < t0) = false := decide_eq_false hl
  have ho1 : (p10 == n0) = true := beq_iff_eq.mpr ho
  have ho2 : (p10 != n0) = false := bne_eq_false_iff_eq.mpr ho
  have hx1 : (p12 == 0) = true := beq_iff_eq.mpr hx
  have hx2 : (p12 != 0) = false := bne_eq_false_iff_eq.mpr hx
  have ht1 : decide (t3 < t2) = true := decide_eq_true ht
  have Hck := Aside0.mk hck
  clear hck
  have Hin := Aside0.mk hin
  clear hin
  have Hks := Aside0.mk hks
  clear hks
  have Hsy := Aside0.mk hsy
  clear hsy
  have Hf2 := Aside0.mk hf2
  clear hf2
  have Hf3 := Aside0.mk hf3
  clear hf3
  clear hn
  clear hm
  clear hl
  clear ho
  clear hx
  clear ht
  go_enter Try.func27, Try.ntmps27
  go_wp2_with (first
    | ((with_reducible refine gate_dst (N := 4) rfl ?_); refine ev_box rfl (N := 4) rfl (cs := #[.int .i64 p0, .int .i64 p1, .int .i64 p2, .int .i64 p3, .int .i64 p4, .int .i64 p5, .int .u32 p6, .int .u32 p7, .int .u32 p8, .int .u64 p9, .int .u64 p10, .int .u64 p11, .int .u64 p12]) (t := 31) ?hr ?_; (case hr => first | (go_simp; done) | (go_simp; rfl)); intro gp hle w1 hbox hgr; have Nap := Aside0.mk (hgr.apart Ba.out hle); have Lp := Aside0.mk (GR.out.young hgr rfl hle); clear hle; have Bp := Aside0.mk hbox; clear hbox; replace Ba := Aside0.mk (hgr.blk Ba.out); replace GR := Aside0.mk (GR.out.nxt hgr rfl rfl rfl rfl); clear hgr)
    | ((with_reducible refine gate_dst (N := 6) rfl ?_); refine ev_box rfl (N := 6) rfl (cs := #[.int .i64 0, .string ⟨#[]⟩, .int .i64 0, .int .i64 0, .int .i64 0, .int .i64 0]) (t := 40) ?hr ?_; (case hr => first | (go_simp; done) | (go_simp; rfl)); intro gr hle w2 hbox hgr; have Nar := Aside0.mk (hgr.apart Ba.out hle); have Npr := Aside0.mk (hgr.apart Bp.out hle); have Lr := Aside0.mk (GR.out.young hgr rfl hle); clear hle; have Br := Aside0.mk hbox; clear hbox; replace Ba := Aside0.mk (hgr.blk Ba.out); replace Bp := Aside0.mk (hgr.blk Bp.out); replace GR := Aside0.mk (GR.out.nxt hgr rfl rfl rfl rfl); clear hgr; have qa1 := Ba.out.cell 1 rfl; have qa2 := Ba.out.cell 2 rfl)
    | ((with_reducible refine gate_dst (N := 30) rfl ?_); refine ev_load rfl (N := 30) rfl 31 (.tmp 4) rfl (g := gp) (t := 31) (cs := ?_) _ ?hx ?hb Try.underlying31 rfl ?hi ?_; (case hx => rfl); (case hb => exact Bp.out); (case hi => kernel_rfl))
    | (go_at_call 34; (with_reducible refine (ntpmsg_Check.calls p0 p1 p2 p3 p4 p5 p6 p7 p8 p9 p10 p11 p12 0 _ Hck.out).mono ?_); rintro e w3 ⟨rfl, hb⟩; have hgr := Grew.below (row := none) hb; clear hb; clear qa1 qa2; replace Ba := Aside0.mk (hgr.blk Ba.out); replace Bp := Aside0.mk (hgr.blk Bp.out); replace Br := Aside0.mk (hgr.blk Br.out); replace GR := Aside0.mk (GR.out.nxt hgr rfl rfl rfl rfl); clear hgr; have qa1 := Ba.out.cell 1 rfl; have qa2 := Ba.out.cell 2 rfl; have qa3 := Ba.out.cell 3 rfl; have qa4 := Ba.out.cell 4 rfl; have qp2 := Bp.out.cell 2 rfl; have qp10 := Bp.out.cell 10 rfl; have qp12 := Bp.out.cell 12 rfl)
    | (go_at_call 25; (with_reducible refine (assoc_inside.calls now true _ Hin.out).mono ?_); rintro e w4 ⟨rfl, hb⟩; have hgr := Grew.drawn0 hb; clear hb; clear qa1 qa2 qa3 qa4 qp2 qp10 qp12; replace Ba := Aside0.mk (hgr.blk Ba.out); replace Bp := Aside0.mk (hgr.blk Bp.out); replace Br := Aside0.mk (hgr.blk Br.out); replace GR := Aside0.mk (GR.out.nxt hgr rfl rfl rfl rfl); clear hgr; have qa1 := Ba.out.cell 1 rfl; have qa2 := Ba.out.cell 2 rfl; have qa3 := Ba.out.cell 3 rfl; have qa4 := Ba.out.cell 4 rfl; have qp2 := Bp.out.cell 2 rfl; have qp10 := Bp.out.cell 10 rfl; have qp12 := Bp.out.cell 12 rfl))
  go_quiet (fail)
  go_wp2_with fail
  go_quiet (fail)
  go_wp2_with (first
    | ((with_reducible refine gate_dst (N := 79) rfl ?_); refine ev_load rfl (N := 79) rfl 31 (.tmp 4) rfl (g := gp) (t := 31) (cs := ?_) _ ?hx ?hb Try.underlying31 rfl ?hi ?_; (case hx => rfl); (case hb => exact Bp.out); (case hi => kernel_rfl))
    | (go_at_call 35; (with_reducible refine (ntpmsg_Kiss.calls k p0 p1 p2 p3 p4 p5 p6 p7 p8 p9 p10 p11 p12 s false _ Hks.out).mono ?_); rintro e w5 ⟨rfl, hb⟩; have hgr := Grew.below (row := none) hb; clear hb; clear qa1 qa2 qa3 qa4 qp2 qp10 qp12; replace Ba := Aside0.mk (hgr.blk Ba.out); replace Bp := Aside0.mk (hgr.blk Bp.out); replace Br := Aside0.mk (hgr.blk Br.out); replace GR := Aside0.mk (GR.out.nxt hgr rfl rfl rfl rfl); clear hgr)
    | ((with_reducible refine gate_dst (N := 86) rfl ?_); refine ev_load rfl (N := 86) rfl 31 (.tmp 4) rfl (g := gp) (t := 31) (cs := ?_) _ ?hx ?hb Try.underlying31 rfl ?hi ?_; (case hx => rfl); (case hb => exact Bp.out); (case hi => kernel_rfl))
    | (go_at_call 36; (with_reducible refine (ntpmsg_Synced.calls p0 p1 p2 p3 p4 p5 p6 p7 p8 p9 p10 p11 p12 true _ Hsy.out).mono ?_); rintro e w6 ⟨rfl, hb⟩; have hgr := Grew.below (row := none) hb; clear hb; replace Ba := Aside0.mk (hgr.blk Ba.out); replace Bp := Aside0.mk (hgr.blk Bp.out); replace Br := Aside0.mk (hgr.blk Br.out); replace GR := Aside0.mk (GR.out.nxt hgr rfl rfl rfl rfl); clear hgr; have qp11 := Bp.out.cell 11 rfl; have qp12 := Bp.out.cell 12 rfl; have qa2 := Ba.out.cell 2 rfl)
    | (go_at_call 37; (with_reducible refine (assoc_found.calls k p11 now t2 true _ Hf2.out).mono ?_); rintro e w7 ⟨rfl, hb⟩; have hgr := Grew.drawn0 hb; clear hb; clear qp11 qp12 qa2; replace Ba := Aside0.mk (hgr.blk Ba.out); replace Bp := Aside0.mk (hgr.blk Bp.out); replace Br := Aside0.mk (hgr.blk Br.out); replace GR := Aside0.mk (GR.out.nxt hgr rfl rfl rfl rfl); clear hgr; have qp11 := Bp.out.cell 11 rfl; have qp12 := Bp.out.cell 12 rfl; have qa2 := Ba.out.cell 2 rfl)
    | (go_at_call 37; (with_reducible refine (assoc_found.calls k p12 now t3 true _ Hf3.out).mono ?_); rintro e w8 ⟨rfl, hb⟩; have hgr := Grew.drawn0 hb; clear hb; clear qp11 qp12 qa2; replace Ba := Aside0.mk (hgr.blk Ba.out); replace Bp := Aside0.mk (hgr.blk Bp.out); replace Br := Aside0.mk (hgr.blk Br.out); replace GR := Aside0.mk (GR.out.nxt hgr rfl rfl rfl rfl); clear hgr; have qa2 := Ba.out.cell 2 rfl)
    | ((with_reducible refine gate_store (t := 40) (p := 6) (v := .tmp 115) rfl ?_); refine ev_store rfl rfl 40 (.tmp 6) (.tmp 115) rfl (g := gr) (t := 40) (old := ?_) #[.int .i64 6, .string ⟨#[]⟩, .int .i64 0, .int .i64 0, .int .i64 0, .int .i64 0] ?hx ?hy ?hb ?hi ?ho ?h1 ?_; (case hx => rfl); (case hy => first | rfl | (go_simp; done) | (go_simp; rfl)); (case hb => exact Br.out); (case hi => kernel_rfl); (case ho => rfl); (case h1 => simp [Value.oneCell']); intro w9 hbox hgr; clear qa2; clear Br; have Br := Aside0.mk hbox; clear hbox; replace Ba := Aside0.mk (hgr.blkFar Ba.out Nar.out); replace Bp := Aside0.mk (hgr.blkFar Bp.out Npr.out); replace GR := Aside0.mk (GR.out.nxtOwn hgr Lr.out rfl rfl rfl rfl); clear hgr))
  refine bodyPost_ret (results_cell_row rfl _ _ gr 40 #[.int .i64 6, .string ⟨#[]⟩, .int .i64 0, .int .i64 0, .int .i64 0, .int .i64 0] (0, 0) _ rfl Br.out Try.underlying40 rfl (by kernel_rfl)) rfl ?_
  exact ⟨rfl, GR.out⟩
set_option maxHeartbeats 2000000 in
set_option maxRecDepth 100000 in
theorem heardP_oka (k g : Nat) (w : World) (now ver n0 t0 : Int) (pd : Bool) (xm : Int) (c0 c1 c2 c3 c4 c5 c6 c7 : Int) (p0 p1 p2 p3 p4 p5 p6 p7 p8 p9 p10 p11 p12 : Int) (hb : Blk w g 57 #[.int .i64 ver, .int .u64 n0, .int .i64 t0, .bool true, .int .u64 xm, .int .i64 c0, .int .i64 c1, .int .i64 c2, .int .i64 c3, .int .i64 c4, .int .i64 c5, .int .i64 c6, .int .i64 c7]) (hn : n0 ≠ 0) (hck : ntpmsg_Check.f p0 p1 p2 p3 p4 p5 p6 p7 p8 p9 p10 p11 p12 = some 0) (hm : p2 = 4) (hin : assoc_inside.f now = some true) (hl : ¬ now < t0) (ho : p10 = n0) (hx : p12 = 0) (s : ByteArray) (hks : ntpmsg_Kiss.f k p0 p1 p2 p3 p4 p5 p6 p7 p8 p9 p10 p11 p12 = some (s, false)) (hsy : ntpmsg_Synced.f p0 p1 p2 p3 p4 p5 p6 p7 p8 p9 p10 p11 p12 = some true) (t2 t3 : Int) (hf2 : assoc_found.f k p11 now = some (t2, true)) (hf3 : assoc_found.f k p12 now = some (t3, true)) (ht : ¬ t3 < t2) : Calls Try.prog 27 #[.pointer (some ⟨g, 0, none⟩), .agg #[.int .i64 p0, .int .i64 p1, .int .i64 p2, .int .i64 p3, .int .i64 p4, .int .i64 p5, .int .u32 p6, .int .u32 p7, .int .u32 p8, .int .u64 p9, .int .u64 p10, .int .u64 p11, .int .u64 p12], .int .i64 now] w fun e w' => e = .returned (.agg #[.int .i64 7, .string ⟨#[]⟩, .int .i64 t0, .int .i64 t2, .int .i64 t3, .int .i64 now]) ∧ Grew w w' none := by
  have GR : Aside0 (Grew w w none) := Aside0.mk (Grew.refl w none)
  have Ba := Aside0.mk hb
  clear hb
  have hn1 : (n0 == 0) = false := beq_eq_false_iff_ne.mpr hn
  have hn2 : (n0 != 0) = true := bne_iff_ne.mpr hn
  have hm1 : (p2 == 4) = true := beq_iff_eq.mpr hm
  have hm2 : (p2 != 4) = false := bne_eq_false_iff_eq.mpr hm
  have hl1 : decide (now < t0) = false := decide_eq_false hl
  have ho1 : (p10 == n0) = true := beq_iff_eq.mpr ho
  have ho2 : (p10 != n0) = false := bne_eq_false_iff_eq.mpr ho
  have hx1 : (p12 == 0) = true := beq_iff_eq.mpr hx
  have hx2 : (p12 != 0) = false := bne_eq_false_iff_eq.mpr hx
  have ht1 : decide (t3 < t2) = false := decide_eq_false ht
  have Hck := Aside0.mk hck
  clear hck
  have Hin := Aside0.mk hin
  clear hin
  have Hks := Aside0.mk hks
  clear hks
  have Hsy := Aside0.mk hsy
  clear hsy
  have Hf2 := Aside0.mk hf2
  clear hf2
  have Hf3 := Aside0.mk hf3
  clear hf3
  clear hn
  clear hm
  clear hl
  clear ho
  clear hx
  clear ht
  go_enter Try.func27, Try.ntmps27
  go_wp2_with (first
    | ((with_reducible refine gate_dst (N := 4) rfl ?_); refine ev_box rfl (N := 4) rfl (cs := #[.int .i64 p0, .int .i64 p1, .int .i64 p2, .int .i64 p3, .int .i64 p4, .int .i64 p5, .int .u32 p6, .int .u32 p7, .int .u32 p8, .int .u64 p9, .int .u64 p10, .int .u64 p11, .int .u64 p12]) (t := 31) ?hr ?_; (case hr => first | (go_simp; done) | (go_simp; rfl)); intro gp hle w1 hbox hgr; have Nap := Aside0.mk (hgr.apart Ba.out hle); have Lp := Aside0.mk (GR.out.young hgr rfl hle); clear hle; have Bp := Aside0.mk hbox; clear hbox; replace Ba := Aside0.mk (hgr.blk Ba.out); replace GR := Aside0.mk (GR.out.nxt hgr rfl rfl rfl rfl); clear hgr)
    | ((with_reducible refine gate_dst (N := 6) rfl ?_); refine ev_box rfl (N := 6) rfl (cs := #[.int .i64 0, .string ⟨#[]⟩, .int .i64 0, .int .i64 0, .int .i64 0, .int .i64 0]) (t := 40) ?hr ?_; (case hr => first | (go_simp; done) | (go_simp; rfl)); intro gr hle w2 hbox hgr; have Nar := Aside0.mk (hgr.apart Ba.out hle); have Npr := Aside0.mk (hgr.apart Bp.out hle); have Lr := Aside0.mk (GR.out.young hgr rfl hle); clear hle; have Br := Aside0.mk hbox; clear hbox; replace Ba := Aside0.mk (hgr.blk Ba.out); replace Bp := Aside0.mk (hgr.blk Bp.out); replace GR := Aside0.mk (GR.out.nxt hgr rfl rfl rfl rfl); clear hgr; have qa1 := Ba.out.cell 1 rfl; have qa2 := Ba.out.cell 2 rfl)
    | ((with_reducible refine gate_dst (N := 30) rfl ?_); refine ev_load rfl (N := 30) rfl 31 (.tmp 4) rfl (g := gp) (t := 31) (cs := ?_) _ ?hx ?hb Try.underlying31 rfl ?hi ?_; (case hx => rfl); (case hb => exact Bp.out); (case hi => kernel_rfl))
    | (go_at_call 34; (with_reducible refine (ntpmsg_Check.calls p0 p1 p2 p3 p4 p5 p6 p7 p8 p9 p10 p11 p12 0 _ Hck.out).mono ?_); rintro e w3 ⟨rfl, hb⟩; have hgr := Grew.below (row := none) hb; clear hb; clear qa1 qa2; replace Ba := Aside0.mk (hgr.blk Ba.out); replace Bp := Aside0.mk (hgr.blk Bp.out); replace Br := Aside0.mk (hgr.blk Br.out); replace GR := Aside0.mk (GR.out.nxt hgr rfl rfl rfl rfl); clear hgr; have qa1 := Ba.out.cell 1 rfl; have qa2 := Ba.out.cell 2 rfl; have qa3 := Ba.out.cell 3 rfl; have qa4 := Ba.out.cell 4 rfl; have qp2 := Bp.out.cell 2 rfl; have qp10 := Bp.out.cell 10 rfl; have qp12 := Bp.out.cell 12 rfl)
    | (go_at_call 25; (with_reducible refine (assoc_inside.calls now true _ Hin.out).mono ?_); rintro e w4 ⟨rfl, hb⟩; have hgr := Grew.drawn0 hb; clear hb; clear qa1 qa2 qa3 qa4 qp2 qp10 qp12; replace Ba := Aside0.mk (hgr.blk Ba.out); replace Bp := Aside0.mk (hgr.blk Bp.out); replace Br := Aside0.mk (hgr.blk Br.out); replace GR := Aside0.mk (GR.out.nxt hgr rfl rfl rfl rfl); clear hgr; have qa1 := Ba.out.cell 1 rfl; have qa2 := Ba.out.cell 2 rfl; have qa3 := Ba.out.cell 3 rfl; have qa4 := Ba.out.cell 4 rfl; have qp2 := Bp.out.cell 2 rfl; have qp10 := Bp.out.cell 10 rfl; have qp12 := Bp.out.cell 12 rfl))
  go_quiet (fail)
  go_wp2_with fail
  go_quiet (fail)
  go_wp2_with (first
    | ((with_reducible refine gate_dst (N := 79) rfl ?_); refine ev_load rfl (N := 79) rfl 31 (.tmp 4) rfl (g := gp) (t := 31) (cs := ?_) _ ?hx ?hb Try.underlying31 rfl ?hi ?_; (case hx => rfl); (case hb => exact Bp.out); (case hi => kernel_rfl))
    | (go_at_call 35; (with_reducible refine (ntpmsg_Kiss.calls k p0 p1 p2 p3 p4 p5 p6 p7 p8 p9 p10 p11 p12 s false _ Hks.out).mono ?_); rintro e w5 ⟨rfl, hb⟩; have hgr := Grew.below (row := none) hb; clear hb; clear qa1 qa2 qa3 qa4 qp2 qp10 qp12; replace Ba := Aside0.mk (hgr.blk Ba.out); replace Bp := Aside0.mk (hgr.blk Bp.out); replace Br := Aside0.mk (hgr.blk Br.out); replace GR := Aside0.mk (GR.out.nxt hgr rfl rfl rfl rfl); clear hgr)
    | ((with_reducible refine gate_dst (N := 86) rfl ?_); refine ev_load rfl (N := 86) rfl 31 (.tmp 4) rfl (g := gp) (t := 31) (cs := ?_) _ ?hx ?hb Try.underlying31 rfl ?hi ?_; (case hx => rfl); (case hb => exact Bp.out); (case hi => kernel_rfl))
    | (go_at_call 36; (with_reducible refine (ntpmsg_Synced.calls p0 p1 p2 p3 p4 p5 p6 p7 p8 p9 p10 p11 p12 true _ Hsy.out).mono ?_); rintro e w6 ⟨rfl, hb⟩; have hgr := Grew.below (row := none) hb; clear hb; replace Ba := Aside0.mk (hgr.blk Ba.out); replace Bp := Aside0.mk (hgr.blk Bp.out); replace Br := Aside0.mk (hgr.blk Br.out); replace GR := Aside0.mk (GR.out.nxt hgr rfl rfl rfl rfl); clear hgr; have qp11 := Bp.out.cell 11 rfl; have qp12 := Bp.out.cell 12 rfl; have qa2 := Ba.out.cell 2 rfl)
    | (go_at_call 37; (with_reducible refine (assoc_found.calls k p11 now t2 true _ Hf2.out).mono ?_); rintro e w7 ⟨rfl, hb⟩; have hgr := Grew.drawn0 hb; clear hb; clear qp11 qp12 qa2; replace Ba := Aside0.mk (hgr.blk Ba.out); replace Bp := Aside0.mk (hgr.blk Bp.out); replace Br := Aside0.mk (hgr.blk Br.out); replace GR := Aside0.mk (GR.out.nxt hgr rfl rfl rfl rfl); clear hgr; have qp11 := Bp.out.cell 11 rfl; have qp12 := Bp.out.cell 12 rfl; have qa2 := Ba.out.cell 2 rfl)
    | (go_at_call 37; (with_reducible refine (assoc_found.calls k p12 now t3 true _ Hf3.out).mono ?_); rintro e w8 ⟨rfl, hb⟩; have hgr := Grew.drawn0 hb; clear hb; clear qp11 qp12 qa2; replace Ba := Aside0.mk (hgr.blk Ba.out); replace Bp := Aside0.mk (hgr.blk Bp.out); replace Br := Aside0.mk (hgr.blk Br.out); replace GR := Aside0.mk (GR.out.nxt hgr rfl rfl rfl rfl); clear hgr; have qa2 := Ba.out.cell 2 rfl)
    | ((with_reducible refine gate_store (t := 40) (p := 6) (v := .tmp 125) rfl ?_); refine ev_store rfl rfl 40 (.tmp 6) (.tmp 125) rfl (g := gr) (t := 40) (old := ?_) #[.int .i64 7, .string ⟨#[]⟩, .int .i64 t0, .int .i64 t2, .int .i64 t3, .int .i64 now] ?hx ?hy ?hb ?hi ?ho ?h1 ?_; (case hx => rfl); (case hy => first | rfl | (go_simp; done) | (go_simp; rfl)); (case hb => exact Br.out); (case hi => kernel_rfl); (case ho => rfl); (case h1 => simp [Value.oneCell']); intro w9 hbox hgr; clear qa2; clear Br; have Br := Aside0.mk hbox; clear hbox; replace Ba := Aside0.mk (hgr.blkFar Ba.out Nar.out); replace Bp := Aside0.mk (hgr.blkFar Bp.out Npr.out); replace GR := Aside0.mk (GR.out.nxtOwn hgr Lr.out rfl rfl rfl rfl); clear hgr))
  refine bodyPost_ret (results_cell_row rfl _ _ gr 40 #[.int .i64 7, .string ⟨#[]⟩, .int .i64 t0, .int .i64 t2, .int .i64 t3, .int .i64 now] (0, 0) _ rfl Br.out Try.underlying40 rfl (by kernel_rfl)) rfl ?_
  exact ⟨rfl, GR.out⟩
set_option maxHeartbeats 2000000 in
set_option maxRecDepth 100000 in
theorem heardP_kissb (k g : Nat) (w : World) (now ver n0 t0 : Int) (pd : Bool) (xm : Int) (c0 c1 c2 c3 c4 c5 c6 c7 : Int) (p0 p1 p2 p3 p4 p5 p6 p7 p8 p9 p10 p11 p12 : Int) (hb : Blk w g 57 #[.int .i64 ver, .int .u64 n0, .int .i64 t0, .bool true, .int .u64 xm, .int .i64 c0, .int .i64 c1, .int .i64 c2, .int .i64 c3, .int .i64 c4, .int .i64 c5, .int .i64 c6, .int .i64 c7]) (hn : n0 ≠ 0) (hck : ntpmsg_Check.f p0 p1 p2 p3 p4 p5 p6 p7 p8 p9 p10 p11 p12 = some 0) (hm : p2 = 4) (hin : assoc_inside.f now = some true) (hl : ¬ now < t0) (ho : p10 = n0) (hx : p12 ≠ 0) (hd : p12 ≠ xm) (s : ByteArray) (hks : ntpmsg_Kiss.f k p0 p1 p2 p3 p4 p5 p6 p7 p8 p9 p10 p11 p12 = some (s, true)) : Calls Try.prog 27 #[.pointer (some ⟨g, 0, none⟩), .agg #[.int .i64 p0, .int .i64 p1, .int .i64 p2, .int .i64 p3, .int .i64 p4, .int .i64 p5, .int .u32 p6, .int .u32 p7, .int .u32 p8, .int .u64 p9, .int .u64 p10, .int .u64 p11, .int .u64 p12], .int .i64 now] w fun e w' => e = .returned (.agg #[.int .i64 4, .string s, .int .i64 0, .int .i64 0, .int .i64 0, .int .i64 0]) ∧ Grew w w' none := by
  have GR : Aside0 (Grew w w none) := Aside0.mk (Grew.refl w none)
  have Ba := Aside0.mk hb
  clear hb
  have hn1 : (n0 == 0) = false := beq_eq_false_iff_ne.mpr hn
  have hn2 : (n0 != 0) = true := bne_iff_ne.mpr hn
  have hm1 : (p2 == 4) = true := beq_iff_eq.mpr hm
  have hm2 : (p2 != 4) = false := bne_eq_false_iff_eq.mpr hm
  have hl1 : decide (now < t0) = false := decide_eq_false hl
  have ho1 : (p10 == n0) = true := beq_iff_eq.mpr ho
  have ho2 : (p10 != n0) = false := bne_eq_false_iff_eq.mpr ho
  have hx1 : (p12 == 0) = false := beq_eq_false_iff_ne.mpr hx
  have hx2 : (p12 != 0) = true := bne_iff_ne.mpr hx
  have hd1 : (p12 == xm) = false := beq_eq_false_iff_ne.mpr hd
  have hd2 : (p12 != xm) = true := bne_iff_ne.mpr hd
  have Hck := Aside0.mk hck
  clear hck
  have Hin := Aside0.mk hin
  clear hin
  have Hks := Aside0.mk hks
  clear hks
  clear hn
  clear hm
  clear hl
  clear ho
  clear hx
  clear hd
  go_enter Try.func27, Try.ntmps27
  go_wp2_with (first
    | ((with_reducible refine gate_dst (N := 4) rfl ?_); refine ev_box rfl (N := 4) rfl (cs := #[.int .i64 p0, .int .i64 p1, .int .i64 p2, .int .i64 p3, .int .i64 p4, .int .i64 p5, .int .u32 p6, .int .u32 p7, .int .u32 p8, .int .u64 p9, .int .u64 p10, .int .u64 p11, .int .u64 p12]) (t := 31) ?hr ?_; (case hr => first | (go_simp; done) | (go_simp; rfl)); intro gp hle w1 hbox hgr; have Nap := Aside0.mk (hgr.apart Ba.out hle); have Lp := Aside0.mk (GR.out.young hgr rfl hle); clear hle; have Bp := Aside0.mk hbox; clear hbox; replace Ba := Aside0.mk (hgr.blk Ba.out); replace GR := Aside0.mk (GR.out.nxt hgr rfl rfl rfl rfl); clear hgr)
    | ((with_reducible refine gate_dst (N := 6) rfl ?_); refine ev_box rfl (N := 6) rfl (cs := #[.int .i64 0, .string ⟨#[]⟩, .int .i64 0, .int .i64 0, .int .i64 0, .int .i64 0]) (t := 40) ?hr ?_; (case hr => first | (go_simp; done) | (go_simp; rfl)); intro gr hle w2 hbox hgr; have Nar := Aside0.mk (hgr.apart Ba.out hle); have Npr := Aside0.mk (hgr.apart Bp.out hle); have Lr := Aside0.mk (GR.out.young hgr rfl hle); clear hle; have Br := Aside0.mk hbox; clear hbox; replace Ba := Aside0.mk (hgr.blk Ba.out); replace Bp := Aside0.mk (hgr.blk Bp.out); replace GR := Aside0.mk (GR.out.nxt hgr rfl rfl rfl rfl); clear hgr; have qa1 := Ba.out.cell 1 rfl; have qa2 := Ba.out.cell 2 rfl)
    | ((with_reducible refine gate_dst (N := 30) rfl ?_); refine ev_load rfl (N := 30) rfl 31 (.tmp 4) rfl (g := gp) (t := 31) (cs := ?_) _ ?hx ?hb Try.underlying31 rfl ?hi ?_; (case hx => rfl); (case hb => exact Bp.out); (case hi => kernel_rfl))
    | (go_at_call 34; (with_reducible refine (ntpmsg_Check.calls p0 p1 p2 p3 p4 p5 p6 p7 p8 p9 p10 p11 p12 0 _ Hck.out).mono ?_); rintro e w3 ⟨rfl, hb⟩; have hgr := Grew.below (row := none) hb; clear hb; clear qa1 qa2; replace Ba := Aside0.mk (hgr.blk Ba.out); replace Bp := Aside0.mk (hgr.blk Bp.out); replace Br := Aside0.mk (hgr.blk Br.out); replace GR := Aside0.mk (GR.out.nxt hgr rfl rfl rfl rfl); clear hgr; have qa1 := Ba.out.cell 1 rfl; have qa2 := Ba.out.cell 2 rfl; have qa3 := Ba.out.cell 3 rfl; have qa4 := Ba.out.cell 4 rfl; have qp2 := Bp.out.cell 2 rfl; have qp10 := Bp.out.cell 10 rfl; have qp12 := Bp.out.cell 12 rfl)
    | (go_at_call 25; (with_reducible refine (assoc_inside.calls now true _ Hin.out).mono ?_); rintro e w4 ⟨rfl, hb⟩; have hgr := Grew.drawn0 hb; clear hb; clear qa1 qa2 qa3 qa4 qp2 qp10 qp12; replace Ba := Aside0.mk (hgr.blk Ba.out); replace Bp := Aside0.mk (hgr.blk Bp.out); replace Br := Aside0.mk (hgr.blk Br.out); replace GR := Aside0.mk (GR.out.nxt hgr rfl rfl rfl rfl); clear hgr; have qa1 := Ba.out.cell 1 rfl; have qa2 := Ba.out.cell 2 rfl; have qa3 := Ba.out.cell 3 rfl; have qa4 := Ba.out.cell 4 rfl; have qp2 := Bp.out.cell 2 rfl; have qp10 := Bp.out.cell 10 rfl; have qp12 := Bp.out.cell 12 rfl))
  go_quiet (fail)
  go_wp2_with fail
  go_quiet (fail)
  go_wp2_with (first
    | ((with_reducible refine gate_dst (N := 79) rfl ?_); refine ev_load rfl (N := 79) rfl 31 (.tmp 4) rfl (g := gp) (t := 31) (cs := ?_) _ ?hx ?hb Try.underlying31 rfl ?hi ?_; (case hx => rfl); (case hb => exact Bp.out); (case hi => kernel_rfl))
    | (go_at_call 35; (with_reducible refine (ntpmsg_Kiss.calls k p0 p1 p2 p3 p4 p5 p6 p7 p8 p9 p10 p11 p12 s true _ Hks.out).mono ?_); rintro e w5 ⟨rfl, hb⟩; have hgr := Grew.below (row := none) hb; clear hb; clear qa1 qa2 qa3 qa4 qp2 qp10 qp12; replace Ba := Aside0.mk (hgr.blk Ba.out); replace Bp := Aside0.mk (hgr.blk Bp.out); replace Br := Aside0.mk (hgr.blk Br.out); replace GR := Aside0.mk (GR.out.nxt hgr rfl rfl rfl rfl); clear hgr)
    | ((with_reducible refine gate_store (t := 40) (p := 6) (v := .tmp 85) rfl ?_); refine ev_store rfl rfl 40 (.tmp 6) (.tmp 85) rfl (g := gr) (t := 40) (old := ?_) #[.int .i64 4, .string s, .int .i64 0, .int .i64 0, .int .i64 0, .int .i64 0] ?hx ?hy ?hb ?hi ?ho ?h1 ?_; (case hx => rfl); (case hy => first | rfl | (go_simp; done) | (go_simp; rfl)); (case hb => exact Br.out); (case hi => kernel_rfl); (case ho => rfl); (case h1 => simp [Value.oneCell']); intro w6 hbox hgr; clear Br; have Br := Aside0.mk hbox; clear hbox; replace Ba := Aside0.mk (hgr.blkFar Ba.out Nar.out); replace Bp := Aside0.mk (hgr.blkFar Bp.out Npr.out); replace GR := Aside0.mk (GR.out.nxtOwn hgr Lr.out rfl rfl rfl rfl); clear hgr))
  refine bodyPost_ret (results_cell_row rfl _ _ gr 40 #[.int .i64 4, .string s, .int .i64 0, .int .i64 0, .int .i64 0, .int .i64 0] (0, 0) _ rfl Br.out Try.underlying40 rfl (by kernel_rfl)) rfl ?_
  exact ⟨rfl, GR.out⟩
set_option maxHeartbeats 2000000 in
set_option maxRecDepth 100000 in
theorem heardP_unsyncb (k g : Nat) (w : World) (now ver n0 t0 : Int) (pd : Bool) (xm : Int) (c0 c1 c2 c3 c4 c5 c6 c7 : Int) (p0 p1 p2 p3 p4 p5 p6 p7 p8 p9 p10 p11 p12 : Int) (hb : Blk w g 57 #[.int .i64 ver, .int .u64 n0, .int .i64 t0, .bool true, .int .u64 xm, .int .i64 c0, .int .i64 c1, .int .i64 c2, .int .i64 c3, .int .i64 c4, .int .i64 c5, .int .i64 c6, .int .i64 c7]) (hn : n0 ≠ 0) (hck : ntpmsg_Check.f p0 p1 p2 p3 p4 p5 p6 p7 p8 p9 p10 p11 p12 = some 0) (hm : p2 = 4) (hin : assoc_inside.f now = some true) (hl : ¬ now < t0) (ho : p10 = n0) (hx : p12 ≠ 0) (hd : p12 ≠ xm) (s : ByteArray) (hks : ntpmsg_Kiss.f k p0 p1 p2 p3 p4 p5 p6 p7 p8 p9 p10 p11 p12 = some (s, false)) (hsy : ntpmsg_Synced.f p0 p1 p2 p3 p4 p5 p6 p7 p8 p9 p10 p11 p12 = some false) : Calls Try.prog 27 #[.pointer (some ⟨g, 0, none⟩), .agg #[.int .i64 p0, .int .i64 p1, .int .i64 p2, .int .i64 p3, .int .i64 p4, .int .i64 p5, .int .u32 p6, .int .u32 p7, .int .u32 p8, .int .u64 p9, .int .u64 p10, .int .u64 p11, .int .u64 p12], .int .i64 now] w fun e w' => e = .returned (.agg #[.int .i64 5, .string ⟨#[]⟩, .int .i64 0, .int .i64 0, .int .i64 0, .int .i64 0]) ∧ Grew w w' none := by
  have GR : Aside0 (Grew w w none) := Aside0.mk (Grew.refl w none)
  have Ba := Aside0.mk hb
  clear hb
  have hn1 : (n0 == 0) = false := beq_eq_false_iff_ne.mpr hn
  have hn2 : (n0 != 0) = true := bne_iff_ne.mpr hn
  have hm1 : (p2 == 4) = true := beq_iff_eq.mpr hm
  have hm2 : (p2 != 4) = false := bne_eq_false_iff_eq.mpr hm
  have hl1 : decide (now < t0) = false := decide_eq_false hl
  have ho1 : (p10 == n0) = true := beq_iff_eq.mpr ho
  have ho2 : (p10 != n0) = false := bne_eq_false_iff_eq.mpr ho
  have hx1 : (p12 == 0) = false := beq_eq_false_iff_ne.mpr hx
  have hx2 : (p12 != 0) = true := bne_iff_ne.mpr hx
  have hd1 : (p12 == xm) = false := beq_eq_false_iff_ne.mpr hd
  have hd2 : (p12 != xm) = true := bne_iff_ne.mpr hd
  have Hck := Aside0.mk hck
  clear hck
  have Hin := Aside0.mk hin
  clear hin
  have Hks := Aside0.mk hks
  clear hks
  have Hsy := Aside0.mk hsy
  clear hsy
  clear hn
  clear hm
  clear hl
  clear ho
  clear hx
  clear hd
  go_enter Try.func27, Try.ntmps27
  go_wp2_with (first
    | ((with_reducible refine gate_dst (N := 4) rfl ?_); refine ev_box rfl (N := 4) rfl (cs := #[.int .i64 p0, .int .i64 p1, .int .i64 p2, .int .i64 p3, .int .i64 p4, .int .i64 p5, .int .u32 p6, .int .u32 p7, .int .u32 p8, .int .u64 p9, .int .u64 p10, .int .u64 p11, .int .u64 p12]) (t := 31) ?hr ?_; (case hr => first | (go_simp; done) | (go_simp; rfl)); intro gp hle w1 hbox hgr; have Nap := Aside0.mk (hgr.apart Ba.out hle); have Lp := Aside0.mk (GR.out.young hgr rfl hle); clear hle; have Bp := Aside0.mk hbox; clear hbox; replace Ba := Aside0.mk (hgr.blk Ba.out); replace GR := Aside0.mk (GR.out.nxt hgr rfl rfl rfl rfl); clear hgr)
    | ((with_reducible refine gate_dst (N := 6) rfl ?_); refine ev_box rfl (N := 6) rfl (cs := #[.int .i64 0, .string ⟨#[]⟩, .int .i64 0, .int .i64 0, .int .i64 0, .int .i64 0]) (t := 40) ?hr ?_; (case hr => first | (go_simp; done) | (go_simp; rfl)); intro gr hle w2 hbox hgr; have Nar := Aside0.mk (hgr.apart Ba.out hle); have Npr := Aside0.mk (hgr.apart Bp.out hle); have Lr := Aside0.mk (GR.out.young hgr rfl hle); clear hle; have Br := Aside0.mk hbox; clear hbox; replace Ba := Aside0.mk (hgr.blk Ba.out); replace Bp := Aside0.mk (hgr.blk Bp.out); replace GR := Aside0.mk (GR.out.nxt hgr rfl rfl rfl rfl); clear hgr; have qa1 := Ba.out.cell 1 rfl; have qa2 := Ba.out.cell 2 rfl)
    | ((with_reducible refine gate_dst (N := 30) rfl ?_); refine ev_load rfl (N := 30) rfl 31 (.tmp 4) rfl (g := gp) (t := 31) (cs := ?_) _ ?hx ?hb Try.underlying31 rfl ?hi ?_; (case hx => rfl); (case hb => exact Bp.out); (case hi => kernel_rfl))
    | (go_at_call 34; (with_reducible refine (ntpmsg_Check.calls p0 p1 p2 p3 p4 p5 p6 p7 p8 p9 p10 p11 p12 0 _ Hck.out).mono ?_); rintro e w3 ⟨rfl, hb⟩; have hgr := Grew.below (row := none) hb; clear hb; clear qa1 qa2; replace Ba := Aside0.mk (hgr.blk Ba.out); replace Bp := Aside0.mk (hgr.blk Bp.out); replace Br := Aside0.mk (hgr.blk Br.out); replace GR := Aside0.mk (GR.out.nxt hgr rfl rfl rfl rfl); clear hgr; have qa1 := Ba.out.cell 1 rfl; have qa2 := Ba.out.cell 2 rfl; have qa3 := Ba.out.cell 3 rfl; have qa4 := Ba.out.cell 4 rfl; have qp2 := Bp.out.cell 2 rfl; have qp10 := Bp.out.cell 10 rfl; have qp12 := Bp.out.cell 12 rfl)
    | (go_at_call 25; (with_reducible refine (assoc_inside.calls now true _ Hin.out).mono ?_); rintro e w4 ⟨rfl, hb⟩; have hgr := Grew.drawn0 hb; clear hb; clear qa1 qa2 qa3 qa4 qp2 qp10 qp12; replace Ba := Aside0.mk (hgr.blk Ba.out); replace Bp := Aside0.mk (hgr.blk Bp.out); replace Br := Aside0.mk (hgr.blk Br.out); replace GR := Aside0.mk (GR.out.nxt hgr rfl rfl rfl rfl); clear hgr; have qa1 := Ba.out.cell 1 rfl; have qa2 := Ba.out.cell 2 rfl; have qa3 := Ba.out.cell 3 rfl; have qa4 := Ba.out.cell 4 rfl; have qp2 := Bp.out.cell 2 rfl; have qp10 := Bp.out.cell 10 rfl; have qp12 := Bp.out.cell 12 rfl))
  go_quiet (fail)
  go_wp2_with fail
  go_quiet (fail)
  go_wp2_with (first
    | ((with_reducible refine gate_dst (N := 79) rfl ?_); refine ev_load rfl (N := 79) rfl 31 (.tmp 4) rfl (g := gp) (t := 31) (cs := ?_) _ ?hx ?hb Try.underlying31 rfl ?hi ?_; (case hx => rfl); (case hb => exact Bp.out); (case hi => kernel_rfl))
    | (go_at_call 35; (with_reducible refine (ntpmsg_Kiss.calls k p0 p1 p2 p3 p4 p5 p6 p7 p8 p9 p10 p11 p12 s false _ Hks.out).mono ?_); rintro e w5 ⟨rfl, hb⟩; have hgr := Grew.below (row := none) hb; clear hb; clear qa1 qa2 qa3 qa4 qp2 qp10 qp12; replace Ba := Aside0.mk (hgr.blk Ba.out); replace Bp := Aside0.mk (hgr.blk Bp.out); replace Br := Aside0.mk (hgr.blk Br.out); replace GR := Aside0.mk (GR.out.nxt hgr rfl rfl rfl rfl); clear hgr)
    | ((with_reducible refine gate_dst (N := 86) rfl ?_); refine ev_load rfl (N := 86) rfl 31 (.tmp 4) rfl (g := gp) (t := 31) (cs := ?_) _ ?hx ?hb Try.underlying31 rfl ?hi ?_; (case hx => rfl); (case hb => exact Bp.out); (case hi => kernel_rfl))
    | (go_at_call 36; (with_reducible refine (ntpmsg_Synced.calls p0 p1 p2 p3 p4 p5 p6 p7 p8 p9 p10 p11 p12 false _ Hsy.out).mono ?_); rintro e w6 ⟨rfl, hb⟩; have hgr := Grew.below (row := none) hb; clear hb; replace Ba := Aside0.mk (hgr.blk Ba.out); replace Bp := Aside0.mk (hgr.blk Bp.out); replace Br := Aside0.mk (hgr.blk Br.out); replace GR := Aside0.mk (GR.out.nxt hgr rfl rfl rfl rfl); clear hgr; have qp11 := Bp.out.cell 11 rfl; have qp12 := Bp.out.cell 12 rfl; have qa2 := Ba.out.cell 2 rfl)
    | ((with_reducible refine gate_store (t := 40) (p := 6) (v := .tmp 89) rfl ?_); refine ev_store rfl rfl 40 (.tmp 6) (.tmp 89) rfl (g := gr) (t := 40) (old := ?_) #[.int .i64 5, .string ⟨#[]⟩, .int .i64 0, .int .i64 0, .int .i64 0, .int .i64 0] ?hx ?hy ?hb ?hi ?ho ?h1 ?_; (case hx => rfl); (case hy => first | rfl | (go_simp; done) | (go_simp; rfl)); (case hb => exact Br.out); (case hi => kernel_rfl); (case ho => rfl); (case h1 => simp [Value.oneCell']); intro w7 hbox hgr; clear qp11 qp12 qa2; clear Br; have Br := Aside0.mk hbox; clear hbox; replace Ba := Aside0.mk (hgr.blkFar Ba.out Nar.out); replace Bp := Aside0.mk (hgr.blkFar Bp.out Npr.out); replace GR := Aside0.mk (GR.out.nxtOwn hgr Lr.out rfl rfl rfl rfl); clear hgr))
  refine bodyPost_ret (results_cell_row rfl _ _ gr 40 #[.int .i64 5, .string ⟨#[]⟩, .int .i64 0, .int .i64 0, .int .i64 0, .int .i64 0] (0, 0) _ rfl Br.out Try.underlying40 rfl (by kernel_rfl)) rfl ?_
  exact ⟨rfl, GR.out⟩
set_option maxHeartbeats 2000000 in
set_option maxRecDepth 100000 in
theorem heardP_time1b (k g : Nat) (w : World) (now ver n0 t0 : Int) (pd : Bool) (xm : Int) (c0 c1 c2 c3 c4 c5 c6 c7 : Int) (p0 p1 p2 p3 p4 p5 p6 p7 p8 p9 p10 p11 p12 : Int) (hb : Blk w g 57 #[.int .i64 ver, .int .u64 n0, .int .i64 t0, .bool true, .int .u64 xm, .int .i64 c0, .int .i64 c1, .int .i64 c2, .int .i64 c3, .int .i64 c4, .int .i64 c5, .int .i64 c6, .int .i64 c7]) (hn : n0 ≠ 0) (hck : ntpmsg_Check.f p0 p1 p2 p3 p4 p5 p6 p7 p8 p9 p10 p11 p12 = some 0) (hm : p2 = 4) (hin : assoc_inside.f now = some true) (hl : ¬ now < t0) (ho : p10 = n0) (hx : p12 ≠ 0) (hd : p12 ≠ xm) (s : ByteArray) (hks : ntpmsg_Kiss.f k p0 p1 p2 p3 p4 p5 p6 p7 p8 p9 p10 p11 p12 = some (s, false)) (hsy : ntpmsg_Synced.f p0 p1 p2 p3 p4 p5 p6 p7 p8 p9 p10 p11 p12 = some true) (t2 t3 : Int) (ok3 : Bool) (hf2 : assoc_found.f k p11 now = some (t2, false)) (hf3 : assoc_found.f k p12 now = some (t3, ok3)) : Calls Try.prog 27 #[.pointer (some ⟨g, 0, none⟩), .agg #[.int .i64 p0, .int .i64 p1, .int .i64 p2, .int .i64 p3, .int .i64 p4, .int .i64 p5, .int .u32 p6, .int .u32 p7, .int .u32 p8, .int .u64 p9, .int .u64 p10, .int .u64 p11, .int .u64 p12], .int .i64 now] w fun e w' => e = .returned (.agg #[.int .i64 6, .string ⟨#[]⟩, .int .i64 0, .int .i64 0, .int .i64 0, .int .i64 0]) ∧ Grew w w' none := by
  have GR : Aside0 (Grew w w none) := Aside0.mk (Grew.refl w none)
  have Ba := Aside0.mk hb
  clear hb
  have hn1 : (n0 == 0) = false := beq_eq_false_iff_ne.mpr hn
  have hn2 : (n0 != 0) = true := bne_iff_ne.mpr hn
  have hm1 : (p2 == 4) = true := beq_iff_eq.mpr hm
  have hm2 : (p2 != 4) = false := bne_eq_false_iff_eq.mpr hm
  have hl1 : decide (now < t0) = false := decide_eq_false hl
  have ho1 : (p10 == n0) = true := beq_iff_eq.mpr ho
  have ho2 : (p10 != n0) = false := bne_eq_false_iff_eq.mpr ho
  have hx1 : (p12 == 0) = false := beq_eq_false_iff_ne.mpr hx
  have hx2 : (p12 != 0) = true := bne_iff_ne.mpr hx
  have hd1 : (p12 == xm) = false := beq_eq_false_iff_ne.mpr hd
  have hd2 : (p12 != xm) = true := bne_iff_ne.mpr hd
  have Hck := Aside0.mk hck
  clear hck
  have Hin := Aside0.mk hin
  clear hin
  have Hks := Aside0.mk hks
  clear hks
  have Hsy := Aside0.mk hsy
  clear hsy
  have Hf2 := Aside0.mk hf2
  clear hf2
  have Hf3 := Aside0.mk hf3
  clear hf3
  clear hn
  clear hm
  clear hl
  clear ho
  clear hx
  clear hd
  go_enter Try.func27, Try.ntmps27
  go_wp2_with (first
    | ((with_reducible refine gate_dst (N := 4) rfl ?_); refine ev_box rfl (N := 4) rfl (cs := #[.int .i64 p0, .int .i64 p1, .int .i64 p2, .int .i64 p3, .int .i64 p4, .int .i64 p5, .int .u32 p6, .int .u32 p7, .int .u32 p8, .int .u64 p9, .int .u64 p10, .int .u64 p11, .int .u64 p12]) (t := 31) ?hr ?_; (case hr => first | (go_simp; done) | (go_simp; rfl)); intro gp hle w1 hbox hgr; have Nap := Aside0.mk (hgr.apart Ba.out hle); have Lp := Aside0.mk (GR.out.young hgr rfl hle); clear hle; have Bp := Aside0.mk hbox; clear hbox; replace Ba := Aside0.mk (hgr.blk Ba.out); replace GR := Aside0.mk (GR.out.nxt hgr rfl rfl rfl rfl); clear hgr)
    | ((with_reducible refine gate_dst (N := 6) rfl ?_); refine ev_box rfl (N := 6) rfl (cs := #[.int .i64 0, .string ⟨#[]⟩, .int .i64 0, .int .i64 0, .int .i64 0, .int .i64 0]) (t := 40) ?hr ?_; (case hr => first | (go_simp; done) | (go_simp; rfl)); intro gr hle w2 hbox hgr; have Nar := Aside0.mk (hgr.apart Ba.out hle); have Npr := Aside0.mk (hgr.apart Bp.out hle); have Lr := Aside0.mk (GR.out.young hgr rfl hle); clear hle; have Br := Aside0.mk hbox; clear hbox; replace Ba := Aside0.mk (hgr.blk Ba.out); replace Bp := Aside0.mk (hgr.blk Bp.out); replace GR := Aside0.mk (GR.out.nxt hgr rfl rfl rfl rfl); clear hgr; have qa1 := Ba.out.cell 1 rfl; have qa2 := Ba.out.cell 2 rfl)
    | ((with_reducible refine gate_dst (N := 30) rfl ?_); refine ev_load rfl (N := 30) rfl 31 (.tmp 4) rfl (g := gp) (t := 31) (cs := ?_) _ ?hx ?hb Try.underlying31 rfl ?hi ?_; (case hx => rfl); (case hb => exact Bp.out); (case hi => kernel_rfl))
    | (go_at_call 34; (with_reducible refine (ntpmsg_Check.calls p0 p1 p2 p3 p4 p5 p6 p7 p8 p9 p10 p11 p12 0 _ Hck.out).mono ?_); rintro e w3 ⟨rfl, hb⟩; have hgr := Grew.below (row := none) hb; clear hb; clear qa1 qa2; replace Ba := Aside0.mk (hgr.blk Ba.out); replace Bp := Aside0.mk (hgr.blk Bp.out); replace Br := Aside0.mk (hgr.blk Br.out); replace GR := Aside0.mk (GR.out.nxt hgr rfl rfl rfl rfl); clear hgr; have qa1 := Ba.out.cell 1 rfl; have qa2 := Ba.out.cell 2 rfl; have qa3 := Ba.out.cell 3 rfl; have qa4 := Ba.out.cell 4 rfl; have qp2 := Bp.out.cell 2 rfl; have qp10 := Bp.out.cell 10 rfl; have qp12 := Bp.out.cell 12 rfl)
    | (go_at_call 25; (with_reducible refine (assoc_inside.calls now true _ Hin.out).mono ?_); rintro e w4 ⟨rfl, hb⟩; have hgr := Grew.drawn0 hb; clear hb; clear qa1 qa2 qa3 qa4 qp2 qp10 qp12; replace Ba := Aside0.mk (hgr.blk Ba.out); replace Bp := Aside0.mk (hgr.blk Bp.out); replace Br := Aside0.mk (hgr.blk Br.out); replace GR := Aside0.mk (GR.out.nxt hgr rfl rfl rfl rfl); clear hgr; have qa1 := Ba.out.cell 1 rfl; have qa2 := Ba.out.cell 2 rfl; have qa3 := Ba.out.cell 3 rfl; have qa4 := Ba.out.cell 4 rfl; have qp2 := Bp.out.cell 2 rfl; have qp10 := Bp.out.cell 10 rfl; have qp12 := Bp.out.cell 12 rfl))
  go_quiet (fail)
  go_wp2_with fail
  go_quiet (fail)
  go_wp2_with (first
    | ((with_reducible refine gate_dst (N := 79) rfl ?_); refine ev_load rfl (N := 79) rfl 31 (.tmp 4) rfl (g := gp) (t := 31) (cs := ?_) _ ?hx ?hb Try.underlying31 rfl ?hi ?_; (case hx => rfl); (case hb => exact Bp.out); (case hi => kernel_rfl))
    | (go_at_call 35; (with_reducible refine (ntpmsg_Kiss.calls k p0 p1 p2 p3 p4 p5 p6 p7 p8 p9 p10 p11 p12 s false _ Hks.out).mono ?_); rintro e w5 ⟨rfl, hb⟩; have hgr := Grew.below (row := none) hb; clear hb; clear qa1 qa2 qa3 qa4 qp2 qp10 qp12; replace Ba := Aside0.mk (hgr.blk Ba.out); replace Bp := Aside0.mk (hgr.blk Bp.out); replace Br := Aside0.mk (hgr.blk Br.out); replace GR := Aside0.mk (GR.out.nxt hgr rfl rfl rfl rfl); clear hgr)
    | ((with_reducible refine gate_dst (N := 86) rfl ?_); refine ev_load rfl (N := 86) rfl 31 (.tmp 4) rfl (g := gp) (t := 31) (cs := ?_) _ ?hx ?hb Try.underlying31 rfl ?hi ?_; (case hx => rfl); (case hb => exact Bp.out); (case hi => kernel_rfl))
    | (go_at_call 36; (with_reducible refine (ntpmsg_Synced.calls p0 p1 p2 p3 p4 p5 p6 p7 p8 p9 p10 p11 p12 true _ Hsy.out).mono ?_); rintro e w6 ⟨rfl, hb⟩; have hgr := Grew.below (row := none) hb; clear hb; replace Ba := Aside0.mk (hgr.blk Ba.out); replace Bp := Aside0.mk (hgr.blk Bp.out); replace Br := Aside0.mk (hgr.blk Br.out); replace GR := Aside0.mk (GR.out.nxt hgr rfl rfl rfl rfl); clear hgr; have qp11 := Bp.out.cell 11 rfl; have qp12 := Bp.out.cell 12 rfl; have qa2 := Ba.out.cell 2 rfl)
    | (go_at_call 37; (with_reducible refine (assoc_found.calls k p11 now t2 false _ Hf2.out).mono ?_); rintro e w7 ⟨rfl, hb⟩; have hgr := Grew.drawn0 hb; clear hb; clear qp11 qp12 qa2; replace Ba := Aside0.mk (hgr.blk Ba.out); replace Bp := Aside0.mk (hgr.blk Bp.out); replace Br := Aside0.mk (hgr.blk Br.out); replace GR := Aside0.mk (GR.out.nxt hgr rfl rfl rfl rfl); clear hgr; have qp11 := Bp.out.cell 11 rfl; have qp12 := Bp.out.cell 12 rfl; have qa2 := Ba.out.cell 2 rfl)
    | (go_at_call 37; (with_reducible refine (assoc_found.calls k p12 now t3 ok3 _ Hf3.out).mono ?_); rintro e w8 ⟨rfl, hb⟩; have hgr := Grew.drawn0 hb; clear hb; clear qp11 qp12 qa2; replace Ba := Aside0.mk (hgr.blk Ba.out); replace Bp := Aside0.mk (hgr.blk Bp.out); replace Br := Aside0.mk (hgr.blk Br.out); replace GR := Aside0.mk (GR.out.nxt hgr rfl rfl rfl rfl); clear hgr; have qa2 := Ba.out.cell 2 rfl)
    | ((with_reducible refine gate_store (t := 40) (p := 6) (v := .tmp 115) rfl ?_); refine ev_store rfl rfl 40 (.tmp 6) (.tmp 115) rfl (g := gr) (t := 40) (old := ?_) #[.int .i64 6, .string ⟨#[]⟩, .int .i64 0, .int .i64 0, .int .i64 0, .int .i64 0] ?hx ?hy ?hb ?hi ?ho ?h1 ?_; (case hx => rfl); (case hy => first | rfl | (go_simp; done) | (go_simp; rfl)); (case hb => exact Br.out); (case hi => kernel_rfl); (case ho => rfl); (case h1 => simp [Value.oneCell']); intro w9 hbox hgr; clear qa2; clear Br; have Br := Aside0.mk hbox; clear hbox; replace Ba := Aside0.mk (hgr.blkFar Ba.out Nar.out); replace Bp := Aside0.mk (hgr.blkFar Bp.out Npr.out); replace GR := Aside0.mk (GR.out.nxtOwn hgr Lr.out rfl rfl rfl rfl); clear hgr))
  refine bodyPost_ret (results_cell_row rfl _ _ gr 40 #[.int .i64 6, .string ⟨#[]⟩, .int .i64 0, .int .i64 0, .int .i64 0, .int .i64 0] (0, 0) _ rfl Br.out Try.underlying40 rfl (by kernel_rfl)) rfl ?_
  exact ⟨rfl, GR.out⟩
set_option maxHeartbeats 2000000 in
set_option maxRecDepth 100000 in
theorem heardP_time2b (k g : Nat) (w : World) (now ver n0 t0 : Int) (pd : Bool) (xm : Int) (c0 c1 c2 c3 c4 c5 c6 c7 : Int) (p0 p1 p2 p3 p4 p5 p6 p7 p8 p9 p10 p11 p12 : Int) (hb : Blk w g 57 #[.int .i64 ver, .int .u64 n0, .int .i64 t0, .bool true, .int .u64 xm, .int .i64 c0, .int .i64 c1, .int .i64 c2, .int .i64 c3, .int .i64 c4, .int .i64 c5, .int .i64 c6, .int .i64 c7]) (hn : n0 ≠ 0) (hck : ntpmsg_Check.f p0 p1 p2 p3 p4 p5 p6 p7 p8 p9 p10 p11 p12 = some 0) (hm : p2 = 4) (hin : assoc_inside.f now = some true) (hl : ¬ now < t0) (ho : p10 = n0) (hx : p12 ≠ 0) (hd : p12 ≠ xm) (s : ByteArray) (hks : ntpmsg_Kiss.f k p0 p1 p2 p3 p4 p5 p6 p7 p8 p9 p10 p11 p12 = some (s, false)) (hsy : ntpmsg_Synced.f p0 p1 p2 p3 p4 p5 p6 p7 p8 p9 p10 p11 p12 = some true) (t2 t3 : Int) (hf2 : assoc_found.f k p11 now = some (t2, true)) (hf3 : assoc_found.f k p12 now = some (t3, false)) : Calls Try.prog 27 #[.pointer (some ⟨g, 0, none⟩), .agg #[.int .i64 p0, .int .i64 p1, .int .i64 p2, .int .i64 p3, .int .i64 p4, .int .i64 p5, .int .u32 p6, .int .u32 p7, .int .u32 p8, .int .u64 p9, .int .u64 p10, .int .u64 p11, .int .u64 p12], .int .i64 now] w fun e w' => e = .returned (.agg #[.int .i64 6, .string ⟨#[]⟩, .int .i64 0, .int .i64 0, .int .i64 0, .int .i64 0]) ∧ Grew w w' none := by
  have GR : Aside0 (Grew w w none) := Aside0.mk (Grew.refl w none)
  have Ba := Aside0.mk hb
  clear hb
  have hn1 : (n0 == 0) = false := beq_eq_false_iff_ne.mpr hn
  have hn2 : (n0 != 0) = true := bne_iff_ne.mpr hn
  have hm1 : (p2 == 4) = true := beq_iff_eq.mpr hm
  have hm2 : (p2 != 4) = false := bne_eq_false_iff_eq.mpr hm
  have hl1 : decide (now < t0) = false := decide_eq_false hl
  have ho1 : (p10 == n0) = true := beq_iff_eq.mpr ho
  have ho2 : (p10 != n0) = false := bne_eq_false_iff_eq.mpr ho
  have hx1 : (p12 == 0) = false := beq_eq_false_iff_ne.mpr hx
  have hx2 : (p12 != 0) = true := bne_iff_ne.mpr hx
  have hd1 : (p12 == xm) = false := beq_eq_false_iff_ne.mpr hd
  have hd2 : (p12 != xm) = true := bne_iff_ne.mpr hd
  have Hck := Aside0.mk hck
  clear hck
  have Hin := Aside0.mk hin
  clear hin
  have Hks := Aside0.mk hks
  clear hks
  have Hsy := Aside0.mk hsy
  clear hsy
  have Hf2 := Aside0.mk hf2
  clear hf2
  have Hf3 := Aside0.mk hf3
  clear hf3
  clear hn
  clear hm
  clear hl
  clear ho
  clear hx
  clear hd
  go_enter Try.func27, Try.ntmps27
  go_wp2_with (first
    | ((with_reducible refine gate_dst (N := 4) rfl ?_); refine ev_box rfl (N := 4) rfl (cs := #[.int .i64 p0, .int .i64 p1, .int .i64 p2, .int .i64 p3, .int .i64 p4, .int .i64 p5, .int .u32 p6, .int .u32 p7, .int .u32 p8, .int .u64 p9, .int .u64 p10, .int .u64 p11, .int .u64 p12]) (t := 31) ?hr ?_; (case hr => first | (go_simp; done) | (go_simp; rfl)); intro gp hle w1 hbox hgr; have Nap := Aside0.mk (hgr.apart Ba.out hle); have Lp := Aside0.mk (GR.out.young hgr rfl hle); clear hle; have Bp := Aside0.mk hbox; clear hbox; replace Ba := Aside0.mk (hgr.blk Ba.out); replace GR := Aside0.mk (GR.out.nxt hgr rfl rfl rfl rfl); clear hgr)
    | ((with_reducible refine gate_dst (N := 6) rfl ?_); refine ev_box rfl (N := 6) rfl (cs := #[.int .i64 0, .string ⟨#[]⟩, .int .i64 0, .int .i64 0, .int .i64 0, .int .i64 0]) (t := 40) ?hr ?_; (case hr => first | (go_simp; done) | (go_simp; rfl)); intro gr hle w2 hbox hgr; have Nar := Aside0.mk (hgr.apart Ba.out hle); have Npr := Aside0.mk (hgr.apart Bp.out hle); have Lr := Aside0.mk (GR.out.young hgr rfl hle); clear hle; have Br := Aside0.mk hbox; clear hbox; replace Ba := Aside0.mk (hgr.blk Ba.out); replace Bp := Aside0.mk (hgr.blk Bp.out); replace GR := Aside0.mk (GR.out.nxt hgr rfl rfl rfl rfl); clear hgr; have qa1 := Ba.out.cell 1 rfl; have qa2 := Ba.out.cell 2 rfl)
    | ((with_reducible refine gate_dst (N := 30) rfl ?_); refine ev_load rfl (N := 30) rfl 31 (.tmp 4) rfl (g := gp) (t := 31) (cs := ?_) _ ?hx ?hb Try.underlying31 rfl ?hi ?_; (case hx => rfl); (case hb => exact Bp.out); (case hi => kernel_rfl))
    | (go_at_call 34; (with_reducible refine (ntpmsg_Check.calls p0 p1 p2 p3 p4 p5 p6 p7 p8 p9 p10 p11 p12 0 _ Hck.out).mono ?_); rintro e w3 ⟨rfl, hb⟩; have hgr := Grew.below (row := none) hb; clear hb; clear qa1 qa2; replace Ba := Aside0.mk (hgr.blk Ba.out); replace Bp := Aside0.mk (hgr.blk Bp.out); replace Br := Aside0.mk (hgr.blk Br.out); replace GR := Aside0.mk (GR.out.nxt hgr rfl rfl rfl rfl); clear hgr; have qa1 := Ba.out.cell 1 rfl; have qa2 := Ba.out.cell 2 rfl; have qa3 := Ba.out.cell 3 rfl; have qa4 := Ba.out.cell 4 rfl; have qp2 := Bp.out.cell 2 rfl; have qp10 := Bp.out.cell 10 rfl; have qp12 := Bp.out.cell 12 rfl)
    | (go_at_call 25; (with_reducible refine (assoc_inside.calls now true _ Hin.out).mono ?_); rintro e w4 ⟨rfl, hb⟩; have hgr := Grew.drawn0 hb; clear hb; clear qa1 qa2 qa3 qa4 qp2 qp10 qp12; replace Ba := Aside0.mk (hgr.blk Ba.out); replace Bp := Aside0.mk (hgr.blk Bp.out); replace Br := Aside0.mk (hgr.blk Br.out); replace GR := Aside0.mk (GR.out.nxt hgr rfl rfl rfl rfl); clear hgr; have qa1 := Ba.out.cell 1 rfl; have qa2 := Ba.out.cell 2 rfl; have qa3 := Ba.out.cell 3 rfl; have qa4 := Ba.out.cell 4 rfl; have qp2 := Bp.out.cell 2 rfl; have qp10 := Bp.out.cell 10 rfl; have qp12 := Bp.out.cell 12 rfl))
  go_quiet (fail)
  go_wp2_with fail
  go_quiet (fail)
  go_wp2_with (first
    | ((with_reducible refine gate_dst (N := 79) rfl ?_); refine ev_load rfl (N := 79) rfl 31 (.tmp 4) rfl (g := gp) (t := 31) (cs := ?_) _ ?hx ?hb Try.underlying31 rfl ?hi ?_; (case hx => rfl); (case hb => exact Bp.out); (case hi => kernel_rfl))
    | (go_at_call 35; (with_reducible refine (ntpmsg_Kiss.calls k p0 p1 p2 p3 p4 p5 p6 p7 p8 p9 p10 p11 p12 s false _ Hks.out).mono ?_); rintro e w5 ⟨rfl, hb⟩; have hgr := Grew.below (row := none) hb; clear hb; clear qa1 qa2 qa3 qa4 qp2 qp10 qp12; replace Ba := Aside0.mk (hgr.blk Ba.out); replace Bp := Aside0.mk (hgr.blk Bp.out); replace Br := Aside0.mk (hgr.blk Br.out); replace GR := Aside0.mk (GR.out.nxt hgr rfl rfl rfl rfl); clear hgr)
    | ((with_reducible refine gate_dst (N := 86) rfl ?_); refine ev_load rfl (N := 86) rfl 31 (.tmp 4) rfl (g := gp) (t := 31) (cs := ?_) _ ?hx ?hb Try.underlying31 rfl ?hi ?_; (case hx => rfl); (case hb => exact Bp.out); (case hi => kernel_rfl))
    | (go_at_call 36; (with_reducible refine (ntpmsg_Synced.calls p0 p1 p2 p3 p4 p5 p6 p7 p8 p9 p10 p11 p12 true _ Hsy.out).mono ?_); rintro e w6 ⟨rfl, hb⟩; have hgr := Grew.below (row := none) hb; clear hb; replace Ba := Aside0.mk (hgr.blk Ba.out); replace Bp := Aside0.mk (hgr.blk Bp.out); replace Br := Aside0.mk (hgr.blk Br.out); replace GR := Aside0.mk (GR.out.nxt hgr rfl rfl rfl rfl); clear hgr; have qp11 := Bp.out.cell 11 rfl; have qp12 := Bp.out.cell 12 rfl; have qa2 := Ba.out.cell 2 rfl)
    | (go_at_call 37; (with_reducible refine (assoc_found.calls k p11 now t2 true _ Hf2.out).mono ?_); rintro e w7 ⟨rfl, hb⟩; have hgr := Grew.drawn0 hb; clear hb; clear qp11 qp12 qa2; replace Ba := Aside0.mk (hgr.blk Ba.out); replace Bp := Aside0.mk (hgr.blk Bp.out); replace Br := Aside0.mk (hgr.blk Br.out); replace GR := Aside0.mk (GR.out.nxt hgr rfl rfl rfl rfl); clear hgr; have qp11 := Bp.out.cell 11 rfl; have qp12 := Bp.out.cell 12 rfl; have qa2 := Ba.out.cell 2 rfl)
    | (go_at_call 37; (with_reducible refine (assoc_found.calls k p12 now t3 false _ Hf3.out).mono ?_); rintro e w8 ⟨rfl, hb⟩; have hgr := Grew.drawn0 hb; clear hb; clear qp11 qp12 qa2; replace Ba := Aside0.mk (hgr.blk Ba.out); replace Bp := Aside0.mk (hgr.blk Bp.out); replace Br := Aside0.mk (hgr.blk Br.out); replace GR := Aside0.mk (GR.out.nxt hgr rfl rfl rfl rfl); clear hgr; have qa2 := Ba.out.cell 2 rfl)
    | ((with_reducible refine gate_store (t := 40) (p := 6) (v := .tmp 115) rfl ?_); refine ev_store rfl rfl 40 (.tmp 6) (.tmp 115) rfl (g := gr) (t := 40) (old := ?_) #[.int .i64 6, .string ⟨#[]⟩, .int .i64 0, .int .i64 0, .int .i64 0, .int .i64 0] ?hx ?hy ?hb ?hi ?ho ?h1 ?_; (case hx => rfl); (case hy => first | rfl | (go_simp; done) | (go_simp; rfl)); (case hb => exact Br.out); (case hi => kernel_rfl); (case ho => rfl); (case h1 => simp [Value.oneCell']); intro w9 hbox hgr; clear qa2; clear Br; have Br := Aside0.mk hbox; clear hbox; replace Ba := Aside0.mk (hgr.blkFar Ba.out Nar.out); replace Bp := Aside0.mk (hgr.blkFar Bp.out Npr.out); replace GR := Aside0.mk (GR.out.nxtOwn hgr Lr.out rfl rfl rfl rfl); clear hgr))
  refine bodyPost_ret (results_cell_row rfl _ _ gr 40 #[.int .i64 6, .string ⟨#[]⟩, .int .i64 0, .int .i64 0, .int .i64 0, .int .i64 0] (0, 0) _ rfl Br.out Try.underlying40 rfl (by kernel_rfl)) rfl ?_
  exact ⟨rfl, GR.out⟩
set_option maxHeartbeats 2000000 in
set_option maxRecDepth 100000 in
theorem heardP_time3b (k g : Nat) (w : World) (now ver n0 t0 : Int) (pd : Bool) (xm : Int) (c0 c1 c2 c3 c4 c5 c6 c7 : Int) (p0 p1 p2 p3 p4 p5 p6 p7 p8 p9 p10 p11 p12 : Int) (hb : Blk w g 57 #[.int .i64 ver, .int .u64 n0, .int .i64 t0, .bool true, .int .u64 xm, .int .i64 c0, .int .i64 c1, .int .i64 c2, .int .i64 c3, .int .i64 c4, .int .i64 c5, .int .i64 c6, .int .i64 c7]) (hn : n0 ≠ 0) (hck : ntpmsg_Check.f p0 p1 p2 p3 p4 p5 p6 p7 p8 p9 p10 p11 p12 = some 0) (hm : p2 = 4) (hin : assoc_inside.f now = some true) (hl : ¬ now < t0) (ho : p10 = n0) (hx : p12 ≠ 0) (hd : p12 ≠ xm) (s : ByteArray) (hks : ntpmsg_Kiss.f k p0 p1 p2 p3 p4 p5 p6 p7 p8 p9 p10 p11 p12 = some (s, false)) (hsy : ntpmsg_Synced.f p0 p1 p2 p3 p4 p5 p6 p7 p8 p9 p10 p11 p12 = some true) (t2 t3 : Int) (hf2 : assoc_found.f k p11 now = some (t2, true)) (hf3 : assoc_found.f k p12 now = some (t3, true)) (ht : t3 < t2) : Calls Try.prog 27 #[.pointer (some ⟨g, 0, none⟩), .agg #[.int .i64 p0, .int .i64 p1, .int .i64 p2, .int .i64 p3, .int .i64 p4, .int .i64 p5, .int .u32 p6, .int .u32 p7, .int .u32 p8, .int .u64 p9, .int .u64 p10, .int .u64 p11, .int .u64 p12], .int .i64 now] w fun e w' => e = .returned (.agg #[.int .i64 6, .string ⟨#[]⟩, .int .i64 0, .int .i64 0, .int .i64 0, .int .i64 0]) ∧ Grew w w' none := by
  have GR : Aside0 (Grew w w none) := Aside0.mk (Grew.refl w none)
  have Ba := Aside0.mk hb
  clear hb
  have hn1 : (n0 == 0) = false := beq_eq_false_iff_ne.mpr hn
  have hn2 : (n0 != 0) = true := bne_iff_ne.mpr hn
  have hm1 : (p2 == 4) = true := beq_iff_eq.mpr hm
  have hm2 : (p2 != 4) = false := bne_eq_false_iff_eq.mpr hm
  have hl1 : decide (now < t0) = false := decide_eq_false hl
  have ho1 : (p10 == n0) = true := beq_iff_eq.mpr ho
  have ho2 : (p10 != n0) = false := bne_eq_false_iff_eq.mpr ho
  have hx1 : (p12 == 0) = false := beq_eq_false_iff_ne.mpr hx
  have hx2 : (p12 != 0) = true := bne_iff_ne.mpr hx
  have hd1 : (p12 == xm) = false := beq_eq_false_iff_ne.mpr hd
  have hd2 : (p12 != xm) = true := bne_iff_ne.mpr hd
  have ht1 : decide (t3 < t2) = true := decide_eq_true ht
  have Hck := Aside0.mk hck
  clear hck
  have Hin := Aside0.mk hin
  clear hin
  have Hks := Aside0.mk hks
  clear hks
  have Hsy := Aside0.mk hsy
  clear hsy
  have Hf2 := Aside0.mk hf2
  clear hf2
  have Hf3 := Aside0.mk hf3
  clear hf3
  clear hn
  clear hm
  clear hl
  clear ho
  clear hx
  clear hd
  clear ht
  go_enter Try.func27, Try.ntmps27
  go_wp2_with (first
    | ((with_reducible refine gate_dst (N := 4) rfl ?_); refine ev_box rfl (N := 4) rfl (cs := #[.int .i64 p0, .int .i64 p1, .int .i64 p2, .int .i64 p3, .int .i64 p4, .int .i64 p5, .int .u32 p6, .int .u32 p7, .int .u32 p8, .int .u64 p9, .int .u64 p10, .int .u64 p11, .int .u64 p12]) (t := 31) ?hr ?_; (case hr => first | (go_simp; done) | (go_simp; rfl)); intro gp hle w1 hbox hgr; have Nap := Aside0.mk (hgr.apart Ba.out hle); have Lp := Aside0.mk (GR.out.young hgr rfl hle); clear hle; have Bp := Aside0.mk hbox; clear hbox; replace Ba := Aside0.mk (hgr.blk Ba.out); replace GR := Aside0.mk (GR.out.nxt hgr rfl rfl rfl rfl); clear hgr)
    | ((with_reducible refine gate_dst (N := 6) rfl ?_); refine ev_box rfl (N := 6) rfl (cs := #[.int .i64 0, .string ⟨#[]⟩, .int .i64 0, .int .i64 0, .int .i64 0, .int .i64 0]) (t := 40) ?hr ?_; (case hr => first | (go_simp; done) | (go_simp; rfl)); intro gr hle w2 hbox hgr; have Nar := Aside0.mk (hgr.apart Ba.out hle); have Npr := Aside0.mk (hgr.apart Bp.out hle); have Lr := Aside0.mk (GR.out.young hgr rfl hle); clear hle; have Br := Aside0.mk hbox; clear hbox; replace Ba := Aside0.mk (hgr.blk Ba.out); replace Bp := Aside0.mk (hgr.blk Bp.out); replace GR := Aside0.mk (GR.out.nxt hgr rfl rfl rfl rfl); clear hgr; have qa1 := Ba.out.cell 1 rfl; have qa2 := Ba.out.cell 2 rfl)
    | ((with_reducible refine gate_dst (N := 30) rfl ?_); refine ev_load rfl (N := 30) rfl 31 (.tmp 4) rfl (g := gp) (t := 31) (cs := ?_) _ ?hx ?hb Try.underlying31 rfl ?hi ?_; (case hx => rfl); (case hb => exact Bp.out); (case hi => kernel_rfl))
    | (go_at_call 34; (with_reducible refine (ntpmsg_Check.calls p0 p1 p2 p3 p4 p5 p6 p7 p8 p9 p10 p11 p12 0 _ Hck.out).mono ?_); rintro e w3 ⟨rfl, hb⟩; have hgr := Grew.below (row := none) hb; clear hb; clear qa1 qa2; replace Ba := Aside0.mk (hgr.blk Ba.out); replace Bp := Aside0.mk (hgr.blk Bp.out); replace Br := Aside0.mk (hgr.blk Br.out); replace GR := Aside0.mk (GR.out.nxt hgr rfl rfl rfl rfl); clear hgr; have qa1 := Ba.out.cell 1 rfl; have qa2 := Ba.out.cell 2 rfl; have qa3 := Ba.out.cell 3 rfl; have qa4 := Ba.out.cell 4 rfl; have qp2 := Bp.out.cell 2 rfl; have qp10 := Bp.out.cell 10 rfl; have qp12 := Bp.out.cell 12 rfl)
    | (go_at_call 25; (with_reducible refine (assoc_inside.calls now true _ Hin.out).mono ?_); rintro e w4 ⟨rfl, hb⟩; have hgr := Grew.drawn0 hb; clear hb; clear qa1 qa2 qa3 qa4 qp2 qp10 qp12; replace Ba := Aside0.mk (hgr.blk Ba.out); replace Bp := Aside0.mk (hgr.blk Bp.out); replace Br := Aside0.mk (hgr.blk Br.out); replace GR := Aside0.mk (GR.out.nxt hgr rfl rfl rfl rfl); clear hgr; have qa1 := Ba.out.cell 1 rfl; have qa2 := Ba.out.cell 2 rfl; have qa3 := Ba.out.cell 3 rfl; have qa4 := Ba.out.cell 4 rfl; have qp2 := Bp.out.cell 2 rfl; have qp10 := Bp.out.cell 10 rfl; have qp12 := Bp.out.cell 12 rfl))
  go_quiet (fail)
  go_wp2_with fail
  go_quiet (fail)
  go_wp2_with (first
    | ((with_reducible refine gate_dst (N := 79) rfl ?_); refine ev_load rfl (N := 79) rfl 31 (.tmp 4) rfl (g := gp) (t := 31) (cs := ?_) _ ?hx ?hb Try.underlying31 rfl ?hi ?_; (case hx => rfl); (case hb => exact Bp.out); (case hi => kernel_rfl))
    | (go_at_call 35; (with_reducible refine (ntpmsg_Kiss.calls k p0 p1 p2 p3 p4 p5 p6 p7 p8 p9 p10 p11 p12 s false _ Hks.out).mono ?_); rintro e w5 ⟨rfl, hb⟩; have hgr := Grew.below (row := none) hb; clear hb; clear qa1 qa2 qa3 qa4 qp2 qp10 qp12; replace Ba := Aside0.mk (hgr.blk Ba.out); replace Bp := Aside0.mk (hgr.blk Bp.out); replace Br := Aside0.mk (hgr.blk Br.out); replace GR := Aside0.mk (GR.out.nxt hgr rfl rfl rfl rfl); clear hgr)
    | ((with_reducible refine gate_dst (N := 86) rfl ?_); refine ev_load rfl (N := 86) rfl 31 (.tmp 4) rfl (g := gp) (t := 31) (cs := ?_) _ ?hx ?hb Try.underlying31 rfl ?hi ?_; (case hx => rfl); (case hb => exact Bp.out); (case hi => kernel_rfl))
    | (go_at_call 36; (with_reducible refine (ntpmsg_Synced.calls p0 p1 p2 p3 p4 p5 p6 p7 p8 p9 p10 p11 p12 true _ Hsy.out).mono ?_); rintro e w6 ⟨rfl, hb⟩; have hgr := Grew.below (row := none) hb; clear hb; replace Ba := Aside0.mk (hgr.blk Ba.out); replace Bp := Aside0.mk (hgr.blk Bp.out); replace Br := Aside0.mk (hgr.blk Br.out); replace GR := Aside0.mk (GR.out.nxt hgr rfl rfl rfl rfl); clear hgr; have qp11 := Bp.out.cell 11 rfl; have qp12 := Bp.out.cell 12 rfl; have qa2 := Ba.out.cell 2 rfl)
    | (go_at_call 37; (with_reducible refine (assoc_found.calls k p11 now t2 true _ Hf2.out).mono ?_); rintro e w7 ⟨rfl, hb⟩; have hgr := Grew.drawn0 hb; clear hb; clear qp11 qp12 qa2; replace Ba := Aside0.mk (hgr.blk Ba.out); replace Bp := Aside0.mk (hgr.blk Bp.out); replace Br := Aside0.mk (hgr.blk Br.out); replace GR := Aside0.mk (GR.out.nxt hgr rfl rfl rfl rfl); clear hgr; have qp11 := Bp.out.cell 11 rfl; have qp12 := Bp.out.cell 12 rfl; have qa2 := Ba.out.cell 2 rfl)
    | (go_at_call 37; (with_reducible refine (assoc_found.calls k p12 now t3 true _ Hf3.out).mono ?_); rintro e w8 ⟨rfl, hb⟩; have hgr := Grew.drawn0 hb; clear hb; clear qp11 qp12 qa2; replace Ba := Aside0.mk (hgr.blk Ba.out); replace Bp := Aside0.mk (hgr.blk Bp.out); replace Br := Aside0.mk (hgr.blk Br.out); replace GR := Aside0.mk (GR.out.nxt hgr rfl rfl rfl rfl); clear hgr; have qa2 := Ba.out.cell 2 rfl)
    | ((with_reducible refine gate_store (t := 40) (p := 6) (v := .tmp 115) rfl ?_); refine ev_store rfl rfl 40 (.tmp 6) (.tmp 115) rfl (g := gr) (t := 40) (old := ?_) #[.int .i64 6, .string ⟨#[]⟩, .int .i64 0, .int .i64 0, .int .i64 0, .int .i64 0] ?hx ?hy ?hb ?hi ?ho ?h1 ?_; (case hx => rfl); (case hy => first | rfl | (go_simp; done) | (go_simp; rfl)); (case hb => exact Br.out); (case hi => kernel_rfl); (case ho => rfl); (case h1 => simp [Value.oneCell']); intro w9 hbox hgr; clear qa2; clear Br; have Br := Aside0.mk hbox; clear hbox; replace Ba := Aside0.mk (hgr.blkFar Ba.out Nar.out); replace Bp := Aside0.mk (hgr.blkFar Bp.out Npr.out); replace GR := Aside0.mk (GR.out.nxtOwn hgr Lr.out rfl rfl rfl rfl); clear hgr))
  refine bodyPost_ret (results_cell_row rfl _ _ gr 40 #[.int .i64 6, .string ⟨#[]⟩, .int .i64 0, .int .i64 0, .int .i64 0, .int .i64 0] (0, 0) _ rfl Br.out Try.underlying40 rfl (by kernel_rfl)) rfl ?_
  exact ⟨rfl, GR.out⟩
set_option maxHeartbeats 2000000 in
set_option maxRecDepth 100000 in
theorem heardP_okb (k g : Nat) (w : World) (now ver n0 t0 : Int) (pd : Bool) (xm : Int) (c0 c1 c2 c3 c4 c5 c6 c7 : Int) (p0 p1 p2 p3 p4 p5 p6 p7 p8 p9 p10 p11 p12 : Int) (hb : Blk w g 57 #[.int .i64 ver, .int .u64 n0, .int .i64 t0, .bool true, .int .u64 xm, .int .i64 c0, .int .i64 c1, .int .i64 c2, .int .i64 c3, .int .i64 c4, .int .i64 c5, .int .i64 c6, .int .i64 c7]) (hn : n0 ≠ 0) (hck : ntpmsg_Check.f p0 p1 p2 p3 p4 p5 p6 p7 p8 p9 p10 p11 p12 = some 0) (hm : p2 = 4) (hin : assoc_inside.f now = some true) (hl : ¬ now < t0) (ho : p10 = n0) (hx : p12 ≠ 0) (hd : p12 ≠ xm) (s : ByteArray) (hks : ntpmsg_Kiss.f k p0 p1 p2 p3 p4 p5 p6 p7 p8 p9 p10 p11 p12 = some (s, false)) (hsy : ntpmsg_Synced.f p0 p1 p2 p3 p4 p5 p6 p7 p8 p9 p10 p11 p12 = some true) (t2 t3 : Int) (hf2 : assoc_found.f k p11 now = some (t2, true)) (hf3 : assoc_found.f k p12 now = some (t3, true)) (ht : ¬ t3 < t2) : Calls Try.prog 27 #[.pointer (some ⟨g, 0, none⟩), .agg #[.int .i64 p0, .int .i64 p1, .int .i64 p2, .int .i64 p3, .int .i64 p4, .int .i64 p5, .int .u32 p6, .int .u32 p7, .int .u32 p8, .int .u64 p9, .int .u64 p10, .int .u64 p11, .int .u64 p12], .int .i64 now] w fun e w' => e = .returned (.agg #[.int .i64 7, .string ⟨#[]⟩, .int .i64 t0, .int .i64 t2, .int .i64 t3, .int .i64 now]) ∧ Grew w w' none := by
  have GR : Aside0 (Grew w w none) := Aside0.mk (Grew.refl w none)
  have Ba := Aside0.mk hb
  clear hb
  have hn1 : (n0 == 0) = false := beq_eq_false_iff_ne.mpr hn
  have hn2 : (n0 != 0) = true := bne_iff_ne.mpr hn
  have hm1 : (p2 == 4) = true := beq_iff_eq.mpr hm
  have hm2 : (p2 != 4) = false := bne_eq_false_iff_eq.mpr hm
  have hl1 : decide (now < t0) = false := decide_eq_false hl
  have ho1 : (p10 == n0) = true := beq_iff_eq.mpr ho
  have ho2 : (p10 != n0) = false := bne_eq_false_iff_eq.mpr ho
  have hx1 : (p12 == 0) = false := beq_eq_false_iff_ne.mpr hx
  have hx2 : (p12 != 0) = true := bne_iff_ne.mpr hx
  have hd1 : (p12 == xm) = false := beq_eq_false_iff_ne.mpr hd
  have hd2 : (p12 != xm) = true := bne_iff_ne.mpr hd
  have ht1 : decide (t3 < t2) = false := decide_eq_false ht
  have Hck := Aside0.mk hck
  clear hck
  have Hin := Aside0.mk hin
  clear hin
  have Hks := Aside0.mk hks
  clear hks
  have Hsy := Aside0.mk hsy
  clear hsy
  have Hf2 := Aside0.mk hf2
  clear hf2
  have Hf3 := Aside0.mk hf3
  clear hf3
  clear hn
  clear hm
  clear hl
  clear ho
  clear hx
  clear hd
  clear ht
  go_enter Try.func27, Try.ntmps27
  go_wp2_with (first
    | ((with_reducible refine gate_dst (N := 4) rfl ?_); refine ev_box rfl (N := 4) rfl (cs := #[.int .i64 p0, .int .i64 p1, .int .i64 p2, .int .i64 p3, .int .i64 p4, .int .i64 p5, .int .u32 p6, .int .u32 p7, .int .u32 p8, .int .u64 p9, .int .u64 p10, .int .u64 p11, .int .u64 p12]) (t := 31) ?hr ?_; (case hr => first | (go_simp; done) | (go_simp; rfl)); intro gp hle w1 hbox hgr; have Nap := Aside0.mk (hgr.apart Ba.out hle); have Lp := Aside0.mk (GR.out.young hgr rfl hle); clear hle; have Bp := Aside0.mk hbox; clear hbox; replace Ba := Aside0.mk (hgr.blk Ba.out); replace GR := Aside0.mk (GR.out.nxt hgr rfl rfl rfl rfl); clear hgr)
    | ((with_reducible refine gate_dst (N := 6) rfl ?_); refine ev_box rfl (N := 6) rfl (cs := #[.int .i64 0, .string ⟨#[]⟩, .int .i64 0, .int .i64 0, .int .i64 0, .int .i64 0]) (t := 40) ?hr ?_; (case hr => first | (go_simp; done) | (go_simp; rfl)); intro gr hle w2 hbox hgr; have Nar := Aside0.mk (hgr.apart Ba.out hle); have Npr := Aside0.mk (hgr.apart Bp.out hle); have Lr := Aside0.mk (GR.out.young hgr rfl hle); clear hle; have Br := Aside0.mk hbox; clear hbox; replace Ba := Aside0.mk (hgr.blk Ba.out); replace Bp := Aside0.mk (hgr.blk Bp.out); replace GR := Aside0.mk (GR.out.nxt hgr rfl rfl rfl rfl); clear hgr; have qa1 := Ba.out.cell 1 rfl; have qa2 := Ba.out.cell 2 rfl)
    | ((with_reducible refine gate_dst (N := 30) rfl ?_); refine ev_load rfl (N := 30) rfl 31 (.tmp 4) rfl (g := gp) (t := 31) (cs := ?_) _ ?hx ?hb Try.underlying31 rfl ?hi ?_; (case hx => rfl); (case hb => exact Bp.out); (case hi => kernel_rfl))
    | (go_at_call 34; (with_reducible refine (ntpmsg_Check.calls p0 p1 p2 p3 p4 p5 p6 p7 p8 p9 p10 p11 p12 0 _ Hck.out).mono ?_); rintro e w3 ⟨rfl, hb⟩; have hgr := Grew.below (row := none) hb; clear hb; clear qa1 qa2; replace Ba := Aside0.mk (hgr.blk Ba.out); replace Bp := Aside0.mk (hgr.blk Bp.out); replace Br := Aside0.mk (hgr.blk Br.out); replace GR := Aside0.mk (GR.out.nxt hgr rfl rfl rfl rfl); clear hgr; have qa1 := Ba.out.cell 1 rfl; have qa2 := Ba.out.cell 2 rfl; have qa3 := Ba.out.cell 3 rfl; have qa4 := Ba.out.cell 4 rfl; have qp2 := Bp.out.cell 2 rfl; have qp10 := Bp.out.cell 10 rfl; have qp12 := Bp.out.cell 12 rfl)
    | (go_at_call 25; (with_reducible refine (assoc_inside.calls now true _ Hin.out).mono ?_); rintro e w4 ⟨rfl, hb⟩; have hgr := Grew.drawn0 hb; clear hb; clear qa1 qa2 qa3 qa4 qp2 qp10 qp12; replace Ba := Aside0.mk (hgr.blk Ba.out); replace Bp := Aside0.mk (hgr.blk Bp.out); replace Br := Aside0.mk (hgr.blk Br.out); replace GR := Aside0.mk (GR.out.nxt hgr rfl rfl rfl rfl); clear hgr; have qa1 := Ba.out.cell 1 rfl; have qa2 := Ba.out.cell 2 rfl; have qa3 := Ba.out.cell 3 rfl; have qa4 := Ba.out.cell 4 rfl; have qp2 := Bp.out.cell 2 rfl; have qp10 := Bp.out.cell 10 rfl; have qp12 := Bp.out.cell 12 rfl))
  go_quiet (fail)
  go_wp2_with fail
  go_quiet (fail)
  go_wp2_with (first
    | ((with_reducible refine gate_dst (N := 79) rfl ?_); refine ev_load rfl (N := 79) rfl 31 (.tmp 4) rfl (g := gp) (t := 31) (cs := ?_) _ ?hx ?hb Try.underlying31 rfl ?hi ?_; (case hx => rfl); (case hb => exact Bp.out); (case hi => kernel_rfl))
    | (go_at_call 35; (with_reducible refine (ntpmsg_Kiss.calls k p0 p1 p2 p3 p4 p5 p6 p7 p8 p9 p10 p11 p12 s false _ Hks.out).mono ?_); rintro e w5 ⟨rfl, hb⟩; have hgr := Grew.below (row := none) hb; clear hb; clear qa1 qa2 qa3 qa4 qp2 qp10 qp12; replace Ba := Aside0.mk (hgr.blk Ba.out); replace Bp := Aside0.mk (hgr.blk Bp.out); replace Br := Aside0.mk (hgr.blk Br.out); replace GR := Aside0.mk (GR.out.nxt hgr rfl rfl rfl rfl); clear hgr)
    | ((with_reducible refine gate_dst (N := 86) rfl ?_); refine ev_load rfl (N := 86) rfl 31 (.tmp 4) rfl (g := gp) (t := 31) (cs := ?_) _ ?hx ?hb Try.underlying31 rfl ?hi ?_; (case hx => rfl); (case hb => exact Bp.out); (case hi => kernel_rfl))
    | (go_at_call 36; (with_reducible refine (ntpmsg_Synced.calls p0 p1 p2 p3 p4 p5 p6 p7 p8 p9 p10 p11 p12 true _ Hsy.out).mono ?_); rintro e w6 ⟨rfl, hb⟩; have hgr := Grew.below (row := none) hb; clear hb; replace Ba := Aside0.mk (hgr.blk Ba.out); replace Bp := Aside0.mk (hgr.blk Bp.out); replace Br := Aside0.mk (hgr.blk Br.out); replace GR := Aside0.mk (GR.out.nxt hgr rfl rfl rfl rfl); clear hgr; have qp11 := Bp.out.cell 11 rfl; have qp12 := Bp.out.cell 12 rfl; have qa2 := Ba.out.cell 2 rfl)
    | (go_at_call 37; (with_reducible refine (assoc_found.calls k p11 now t2 true _ Hf2.out).mono ?_); rintro e w7 ⟨rfl, hb⟩; have hgr := Grew.drawn0 hb; clear hb; clear qp11 qp12 qa2; replace Ba := Aside0.mk (hgr.blk Ba.out); replace Bp := Aside0.mk (hgr.blk Bp.out); replace Br := Aside0.mk (hgr.blk Br.out); replace GR := Aside0.mk (GR.out.nxt hgr rfl rfl rfl rfl); clear hgr; have qp11 := Bp.out.cell 11 rfl; have qp12 := Bp.out.cell 12 rfl; have qa2 := Ba.out.cell 2 rfl)
    | (go_at_call 37; (with_reducible refine (assoc_found.calls k p12 now t3 true _ Hf3.out).mono ?_); rintro e w8 ⟨rfl, hb⟩; have hgr := Grew.drawn0 hb; clear hb; clear qp11 qp12 qa2; replace Ba := Aside0.mk (hgr.blk Ba.out); replace Bp := Aside0.mk (hgr.blk Bp.out); replace Br := Aside0.mk (hgr.blk Br.out); replace GR := Aside0.mk (GR.out.nxt hgr rfl rfl rfl rfl); clear hgr; have qa2 := Ba.out.cell 2 rfl)
    | ((with_reducible refine gate_store (t := 40) (p := 6) (v := .tmp 125) rfl ?_); refine ev_store rfl rfl 40 (.tmp 6) (.tmp 125) rfl (g := gr) (t := 40) (old := ?_) #[.int .i64 7, .string ⟨#[]⟩, .int .i64 t0, .int .i64 t2, .int .i64 t3, .int .i64 now] ?hx ?hy ?hb ?hi ?ho ?h1 ?_; (case hx => rfl); (case hy => first | rfl | (go_simp; done) | (go_simp; rfl)); (case hb => exact Br.out); (case hi => kernel_rfl); (case ho => rfl); (case h1 => simp [Value.oneCell']); intro w9 hbox hgr; clear qa2; clear Br; have Br := Aside0.mk hbox; clear hbox; replace Ba := Aside0.mk (hgr.blkFar Ba.out Nar.out); replace Bp := Aside0.mk (hgr.blkFar Bp.out Npr.out); replace GR := Aside0.mk (GR.out.nxtOwn hgr Lr.out rfl rfl rfl rfl); clear hgr))
  refine bodyPost_ret (results_cell_row rfl _ _ gr 40 #[.int .i64 7, .string ⟨#[]⟩, .int .i64 t0, .int .i64 t2, .int .i64 t3, .int .i64 now] (0, 0) _ rfl Br.out Try.underlying40 rfl (by kernel_rfl)) rfl ?_
  exact ⟨rfl, GR.out⟩
end Go.Proofs.Ytohjmfjdopffkaa.As
