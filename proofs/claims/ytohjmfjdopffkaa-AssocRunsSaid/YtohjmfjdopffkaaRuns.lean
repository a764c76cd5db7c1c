/- AssocRuns: the walk: both objects, a loop over operations. -/
import Derived.Test.YtohjmfjdopffkaaOb
import Derived.Test.YtohjmfjdopffkaaAwake
import Derived.Test.YtohjmfjdopffkaaOnceP
import Derived.Test.YtohjmfjdopffkaaAsObjR
import Derived.WalkSpells
import Derived.Deep.CutRange
import Derived.Deep.QuietTactic
import Derived.BigQuiet
import Derived.Deep.RegionHeld3
namespace Go.Proofs.Ytohjmfjdopffkaa.As
open Go Go.RowKit Go.Proofs.YtohjmfjdopffkaaW.PrintWords Go.Proofs.YtohjmfjdopffkaaW.PrintLast Go.Proofs.YtohjmfjdopffkaaW.PrintMore Go.Proofs.Ytohjmfjdopffkaa.PAs Go.Proofs.Ytohjmfjdopffkaa.AsP Go.Proofs.Ytohjmfjdopffkaa.FxAs Go.Proofs.Ytohjmfjdopffkaa.Math Go.Proofs.Ytohjmfjdopffkaa.Ob
attribute [local go_sem] max2_int min2_int max_two min_two max_three min_three max_four min_four
set_option linter.unusedVariables false
set_option linter.unusedSimpArgs false
set_option maxHeartbeats 8000000 in
set_option maxRecDepth 100000 in
theorem runs_main (w : World) (v : Int) (A : Option Addr) (cap : Nat) (l : List Opn) (h1 : Aside0 (decide (1 ≤ v) = true)) (h2 : Aside0 (decide (v ≤ 4) = true)) (h60 : l.length ≤ 60) (hlc : l.length ≤ cap) (hC : Kd.C kop w A l.length l) (hQ : ∀ a ∈ l, a.wf) : Calls Try.prog 3 #[.int .i64 v, .slice A l.length cap] w fun e w' => e = .returned (.bool true) ∧ Grew w w' none := by
  have GR : Aside0 (Grew w w none) := Aside0.mk (Grew.refl w none)
  have HC := Aside0.mk hC
  have HQ := Aside0.mk hQ
  have L60 := Aside0.mk h60
  clear hC hQ
  have c60 : decide (60 < (l.length : Int)) = false := decide_eq_false (by omega)
  clear h60
  go_enter Try.func3, Try.ntmps3
  go_wp2_with (first
    | (go_at_call 9; (with_reducible refine (newP_ok v (of_decide_eq_true h1.out) (of_decide_eq_true h2.out) _).mono ?_); rintro e w1 ⟨ga, rfl, hle, hbox, hgr⟩; have La := Aside0.mk (GR.out.young hgr rfl hle); clear hle; have Ba := Aside0.mk hbox; clear hbox; replace GR := Aside0.mk (GR.out.nxt hgr rfl rfl rfl rfl); clear hgr)
    | (go_at_call 10; (with_reducible refine (newR_ok v (of_decide_eq_true h1.out) (of_decide_eq_true h2.out) _).mono ?_); rintro e w2 ⟨gb, rfl, hle, hbox, hgr⟩; have Nab := Aside0.mk (hgr.apart Ba.out hle); have Lb := Aside0.mk (GR.out.young hgr rfl hle); clear hle; have Bb := Aside0.mk hbox; clear hbox; replace Ba := Aside0.mk (hgr.blk Ba.out); replace GR := Aside0.mk (GR.out.nxt hgr rfl rfl rfl rfl); clear hgr))
  go_loopg [7] l.length (fun kq v7 w' => ∃ (s : S) (x7 : Int), v7 = .int .i64 x7 ∧ Aside0 (0 ≤ x7 ∧ x7 + (kq : Int) = l.length) ∧ Aside0 s.inv ∧ Aside0 (Blk w' ga 57 s.cP) ∧ Aside0 (Blk w' gb 59 s.cR) ∧ Aside0 (Grew w w' none))
  case atStart => exact ⟨(⟨v, 0, 0, false, 0, 0, 0, 0, 0, 0, 0, 0, 0⟩ : S), 0, rfl, ⟨by omega⟩, ⟨fun _ => ⟨rfl, rfl⟩⟩, Ba, Bb, GR⟩
  case round =>
    obtain ⟨s, x7, rfl, HI, HS, HA, HB, HG⟩ := hrel
    clear GR Ba Bb
    have GR := HG; clear HG
    have Ba := HA; clear HA
    have Bb := HB; clear HB
    by_cases hlt : x7 < l.length
    · have hx0 := HI.out.1
      obtain ⟨ad, e_, g0, g1, g2, g3, g4, g5, g6, g7, g8, g9, g10, g11, g12, g13, g14, g15⟩ := at_op HC.out x7 hx0 hlt
      cases e_
      have h0 := Aside0.mk g0; clear g0
      have h1 := Aside0.mk g1; clear g1
      have h2 := Aside0.mk g2; clear g2
      have h3 := Aside0.mk g3; clear g3
      have h4 := Aside0.mk g4; clear g4
      have h5 := Aside0.mk g5; clear g5
      have h6 := Aside0.mk g6; clear g6
      have h7 := Aside0.mk g7; clear g7
      have h8 := Aside0.mk g8; clear g8
      have h9 := Aside0.mk g9; clear g9
      have h10 := Aside0.mk g10; clear g10
      have h11 := Aside0.mk g11; clear g11
      have h12 := Aside0.mk g12; clear g12
      have h13 := Aside0.mk g13; clear g13
      have h14 := Aside0.mk g14; clear g14
      have h15 := Aside0.mk g15; clear g15
      have WF := Aside0.mk (rdo_wf HQ.out x7 hx0 hlt)
      obtain ⟨k1, rfl⟩ : ∃ k1, gk = k1 + 1 := ⟨gk - 1, by have := HI.out; omega⟩
      have hb7 : x7 ≤ 60 := by have := L60.out; omega
      have c1 : decide (x7 < (l.length : Int)) = true := decide_eq_true hlt
      have c2 := eq_true hx0
      have c3 := eq_true hlt
      have c4 : decide (0 ≤ x7) = true := decide_eq_true hx0
      clear hlt hx0
      have q0 := lcell GR.out h0.out
      go_upto_if 43 with (fail)
      go_cut [8, 9, 10, 11] from 32 to 133 (fun v8 v9 v10 v11 wx => ∃ (x' : S), Aside0 x'.inv ∧ Aside0 (Blk wx ga 57 x'.cP) ∧ Aside0 (Blk wx gb 59 x'.cR) ∧ Aside0 (Grew w wx none))
      case first =>
        by_cases ho : (rdo l x7).kd = 0
        · have o1 : ((rdo l x7).kd == 0) = true := beq_iff_eq.mpr ho
          clear ho
          obtain ⟨a1, a2, a12, hst, hz, hnz⟩ := sent_form s (rdo l x7).now (rdo l x7).nonce
          clear hz hnz
          obtain ⟨c, hc⟩ : ∃ c, c = (send s (rdo l x7).now (rdo l x7).nonce).1 := ⟨_, rfl⟩
          obtain ⟨x', hx'⟩ : ∃ x, x = (send s (rdo l x7).now (rdo l x7).nonce).2 := ⟨_, rfl⟩
          rw [← hc] at hst
          have NX : Aside0 x'.inv := ⟨by rw [hx']; exact send_inv _ _ _ HS.out⟩
          have HSn : Aside0 (∀ W, Blk W ga 57 s.cP → Calls Try.prog 12 #[.pointer (some ⟨ga, 0, none⟩), .int .i64 (rdo l x7).now, .int .u64 (rdo l x7).nonce] W fun e w' => e = .returned (.tuple #[.agg #[.int .i64 0, .int .i64 a1, .int .i64 a2, .int .i64 0, .int .i64 0, .int .i64 0, .int .u32 0, .int .u32 0, .int .u32 0, .int .u64 0, .int .u64 0, .int .u64 0, .int .u64 a12], .int .i64 c]) ∧ Blk w' ga 57 x'.cP ∧ Grew W w' (some ga)) := ⟨fun W hW => by have := sendP_calls ga W s (rdo l x7).now (rdo l x7).nonce hW; rw [hst, ← hx'] at this; exact this⟩
          have HSr : Aside0 (∀ W, Blk W gb 59 s.cR → Calls Try.prog 13 #[.pointer (some ⟨gb, 0, none⟩), .int .i64 (rdo l x7).now, .int .u64 (rdo l x7).nonce] W fun e w' => e = .returned (.tuple #[.agg #[.int .i64 0, .int .i64 a1, .int .i64 a2, .int .i64 0, .int .i64 0, .int .i64 0, .int .u32 0, .int .u32 0, .int .u32 0, .int .u64 0, .int .u64 0, .int .u64 0, .int .u64 a12], .int .i64 c]) ∧ Blk w' gb 59 x'.cR ∧ Grew W w' (some gb)) := ⟨fun W hW => by have := sendR_calls gb W s (rdo l x7).now (rdo l x7).nonce hW; rw [hst, ← hx'] at this; exact this⟩
          clear hst hc hx'
          go_wp2_with fail
          have q1 := lcell GR.out h1.out
          have q2 := lcell GR.out h2.out
          go_region_held3 (fun w' => w'.cell? ⟨(ad.add (x7.toNat * 16)).block, (ad.add (x7.toNat * 16)).off + 1, none⟩ = some (.int .i64 (rdo l x7).now) ∧ w'.cell? ⟨(ad.add (x7.toNat * 16)).block, (ad.add (x7.toNat * 16)).off + 2, none⟩ = some (.int .u64 (rdo l x7).nonce)) (first | ((with_reducible show (World.setCell _ _ _).cell? _ = _ ∧ _); have hge : w.heap.size ≤ wr.heap.size := GR.out.size; have G3 := setsL_grew hge [.int .i64 0, .int .i64 a1, .int .i64 a2, .int .i64 0, .int .i64 0, .int .i64 0, .int .u32 0, .int .u32 0, .int .u32 0, .int .u64 0, .int .u64 0, .int .u64 0, .int .u64 a12] 0 w2 G2; exact ⟨lcell G3 h1.out, lcell G3 h2.out⟩) | (with_reducible exact ⟨q1, q2⟩) | ((with_reducible show (World.drew _).cell? _ = _ ∧ _); first | (with_reducible exact ⟨lcell ((GR.out.then_none (grew_alloc _ _ _)).then_none (grew_drew1 _ none)) h1.out, lcell ((GR.out.then_none (grew_alloc _ _ _)).then_none (grew_drew1 _ none)) h2.out⟩) | exact ⟨q1, q2⟩) | (with_reducible exact ⟨lcell G2 h1.out, lcell G2 h2.out⟩) | ((with_reducible show (World.alloc _ _).cell? _ = _ ∧ _); first | (with_reducible exact ⟨lcell (G2.then_none (grew_alloc _ _ _)) h1.out, lcell (G2.then_none (grew_alloc _ _ _)) h2.out⟩) | exact ⟨lcell ((GR.out.then_none (grew_drew1 _ none)).then_none (grew_alloc _ _ _)) h1.out, lcell ((GR.out.then_none (grew_drew1 _ none)).then_none (grew_alloc _ _ _)) h2.out⟩)) (first | ((go_at_call 12; (first | (with_reducible refine (HSn.out _ Ba.out).mono ?_) | (with_reducible refine (HSn.out _ (blk_old Ba.out _)).mono ?_) | (with_reducible refine (HSn.out _ (blk_drawn Ba.out _)).mono ?_) | (refine (HSn.out _ (by first | exact Ba.out | exact blk_old Ba.out _)).mono ?_)); rintro e w2 ⟨rfl, hbox, hgr⟩); have e2gb : Blk w2 gb 59 s.cR := hgr.blkFar (by first | exact Bb.out | exact blk_old Bb.out _ | exact blk_drawn Bb.out _ | exact blk_old (blk_drawn Bb.out _) _ | exact blk_drawn (blk_old Bb.out _) _) (Ne.symm Nab.out); have G2 : Grew w w2 none := (by first | exact GR.out.nxtOwn hgr La.out rfl rfl rfl rfl | exact (GR.out.then_none (Grew.below (below_alloc (Below.refl _ _) (.cells #[.int .i64 0, .int .i64 0, .int .i64 0, .int .i64 0, .int .i64 0, .int .i64 0, .int .u32 0, .int .u32 0, .int .u32 0, .int .u64 0, .int .u64 0, .int .u64 0, .int .u64 0] 31 (0, 0))))).nxtOwn hgr La.out rfl rfl rfl rfl); (try (have hx : Blk w2 wr.heap.size 31 #[.int .i64 0, .int .i64 0, .int .i64 0, .int .i64 0, .int .i64 0, .int .i64 0, .int .u32 0, .int .u32 0, .int .u32 0, .int .u64 0, .int .u64 0, .int .u64 0, .int .u64 0] := hgr.blkFar (by exact blk_new wr _) (Nat.ne_of_gt Ba.out.lt); have cx0 := hx.cell 0 (v := .int .i64 0) rfl; have fx0 := hx.frozen 0; have cx1 := hx.cell 1 (v := .int .i64 0) rfl; have fx1 := hx.frozen 1; have cx2 := hx.cell 2 (v := .int .i64 0) rfl; have fx2 := hx.frozen 2; have cx3 := hx.cell 3 (v := .int .i64 0) rfl; have fx3 := hx.frozen 3; have cx4 := hx.cell 4 (v := .int .i64 0) rfl; have fx4 := hx.frozen 4; have cx5 := hx.cell 5 (v := .int .i64 0) rfl; have fx5 := hx.frozen 5; have cx6 := hx.cell 6 (v := .int .u32 0) rfl; have fx6 := hx.frozen 6; have cx7 := hx.cell 7 (v := .int .u32 0) rfl; have fx7 := hx.frozen 7; have cx8 := hx.cell 8 (v := .int .u32 0) rfl; have fx8 := hx.frozen 8; have cx9 := hx.cell 9 (v := .int .u64 0) rfl; have fx9 := hx.frozen 9; have cx10 := hx.cell 10 (v := .int .u64 0) rfl; have fx10 := hx.frozen 10; have cx11 := hx.cell 11 (v := .int .u64 0) rfl; have fx11 := hx.frozen 11; have cx12 := hx.cell 12 (v := .int .u64 0) rfl; have fx12 := hx.frozen 12))))
          all_goals first
            | (have hge : w.heap.size ≤ wr.heap.size := GR.out.size; have hbh := setsL_full [.int .i64 0, .int .i64 a1, .int .i64 a2, .int .i64 0, .int .i64 0, .int .i64 0, .int .u32 0, .int .u32 0, .int .u32 0, .int .u64 0, .int .u64 0, .int .u64 0, .int .u64 a12] w2 _ hx rfl; have hn_ga := Nat.ne_of_lt (Blk.lt (w := wr) Ba.out); have hb_ga := setsL_far hn_ga [.int .i64 0, .int .i64 a1, .int .i64 a2, .int .i64 0, .int .i64 0, .int .i64 0, .int .u32 0, .int .u32 0, .int .u32 0, .int .u64 0, .int .u64 0, .int .u64 0, .int .u64 a12] 0 w2 hbox; have hn_gb := Nat.ne_of_lt (Blk.lt (w := wr) Bb.out); have hb_gb := setsL_far hn_gb [.int .i64 0, .int .i64 a1, .int .i64 a2, .int .i64 0, .int .i64 0, .int .i64 0, .int .u32 0, .int .u32 0, .int .u32 0, .int .u64 0, .int .u64 0, .int .u64 0, .int .u64 a12] 0 w2 e2gb; have hgg := setsL_grew hge [.int .i64 0, .int .i64 a1, .int .i64 a2, .int .i64 0, .int .i64 0, .int .i64 0, .int .u32 0, .int .u32 0, .int .u32 0, .int .u64 0, .int .u64 0, .int .u64 0, .int .u64 a12] 0 w2 G2; simp only [setsL, Nat.reduceAdd] at hbh hgg hb_ga hb_gb; generalize (((((((((((((w2.setCell ⟨wr.heap.size, 0, none⟩ (.int .i64 0)).setCell ⟨wr.heap.size, 1, none⟩ (.int .i64 a1)).setCell ⟨wr.heap.size, 2, none⟩ (.int .i64 a2)).setCell ⟨wr.heap.size, 3, none⟩ (.int .i64 0)).setCell ⟨wr.heap.size, 4, none⟩ (.int .i64 0)).setCell ⟨wr.heap.size, 5, none⟩ (.int .i64 0)).setCell ⟨wr.heap.size, 6, none⟩ (.int .u32 0)).setCell ⟨wr.heap.size, 7, none⟩ (.int .u32 0)).setCell ⟨wr.heap.size, 8, none⟩ (.int .u32 0)).setCell ⟨wr.heap.size, 9, none⟩ (.int .u64 0)).setCell ⟨wr.heap.size, 10, none⟩ (.int .u64 0)).setCell ⟨wr.heap.size, 11, none⟩ (.int .u64 0)).setCell ⟨wr.heap.size, 12, none⟩ (.int .u64 a12)) = wz at hbh hgg hb_ga hb_gb ⊢; generalize wr.heap.size = gh at hbh hn_ga hn_gb ⊢)
            | (have hbh : Blk (w2.alloc (.cells #[.int .i64 0, .int .i64 a1, .int .i64 a2, .int .i64 0, .int .i64 0, .int .i64 0, .int .u32 0, .int .u32 0, .int .u32 0, .int .u64 0, .int .u64 0, .int .u64 0, .int .u64 a12] 31 (0, 0))) w2.heap.size 31 #[.int .i64 0, .int .i64 a1, .int .i64 a2, .int .i64 0, .int .i64 0, .int .i64 0, .int .u32 0, .int .u32 0, .int .u32 0, .int .u64 0, .int .u64 0, .int .u64 0, .int .u64 a12] := blk_new w2 _; have hn_ga := Nat.ne_of_lt (Blk.lt (w := w2) hbox); have hb_ga := blk_old hbox (.cells #[.int .i64 0, .int .i64 a1, .int .i64 a2, .int .i64 0, .int .i64 0, .int .i64 0, .int .u32 0, .int .u32 0, .int .u32 0, .int .u64 0, .int .u64 0, .int .u64 0, .int .u64 a12] 31 (0, 0)); have hn_gb := Nat.ne_of_lt (Blk.lt (w := w2) e2gb); have hb_gb := blk_old e2gb (.cells #[.int .i64 0, .int .i64 a1, .int .i64 a2, .int .i64 0, .int .i64 0, .int .i64 0, .int .u32 0, .int .u32 0, .int .u32 0, .int .u64 0, .int .u64 0, .int .u64 0, .int .u64 a12] 31 (0, 0)); have hgg : Grew w (w2.alloc (.cells #[.int .i64 0, .int .i64 a1, .int .i64 a2, .int .i64 0, .int .i64 0, .int .i64 0, .int .u32 0, .int .u32 0, .int .u32 0, .int .u64 0, .int .u64 0, .int .u64 0, .int .u64 a12] 31 (0, 0))) none := G2.then_none (Grew.below (below_alloc (Below.refl _ _) _)); generalize w2.alloc (.cells #[.int .i64 0, .int .i64 a1, .int .i64 a2, .int .i64 0, .int .i64 0, .int .i64 0, .int .u32 0, .int .u32 0, .int .u32 0, .int .u64 0, .int .u64 0, .int .u64 0, .int .u64 a12] 31 (0, 0)) = wz at hbh hgg hb_ga hb_gb ⊢; generalize w2.heap.size = gh at hbh hn_ga hn_gb ⊢)
          all_goals (clear q1 q2 hgr hbox G2 e2gb)
          all_goals
            replace Ba := Aside0.mk hb_ga; replace Bb := Aside0.mk hb_gb; have Bh := Aside0.mk hbh; have Nh := Aside0.mk hn_gb; replace GR := Aside0.mk hgg; clear hb_ga hb_gb hbh hn_gb hn_ga hgg
            go_wp2_with fail
            have q1 := lcell GR.out h1.out
            have q2 := lcell GR.out h2.out
            go_region_held3 (fun w' => w'.cell? ⟨(ad.add (x7.toNat * 16)).block, (ad.add (x7.toNat * 16)).off + 1, none⟩ = some (.int .i64 (rdo l x7).now) ∧ w'.cell? ⟨(ad.add (x7.toNat * 16)).block, (ad.add (x7.toNat * 16)).off + 2, none⟩ = some (.int .u64 (rdo l x7).nonce)) (first | ((with_reducible show (World.setCell _ _ _).cell? _ = _ ∧ _); have hge : w.heap.size ≤ wz.heap.size := GR.out.size; have G3 := setsL_grew hge [.int .i64 0, .int .i64 a1, .int .i64 a2, .int .i64 0, .int .i64 0, .int .i64 0, .int .u32 0, .int .u32 0, .int .u32 0, .int .u64 0, .int .u64 0, .int .u64 0, .int .u64 a12] 0 w2 G2; exact ⟨lcell G3 h1.out, lcell G3 h2.out⟩) | (with_reducible exact ⟨q1, q2⟩) | ((with_reducible show (World.drew _).cell? _ = _ ∧ _); first | (with_reducible exact ⟨lcell ((GR.out.then_none (grew_alloc _ _ _)).then_none (grew_drew1 _ none)) h1.out, lcell ((GR.out.then_none (grew_alloc _ _ _)).then_none (grew_drew1 _ none)) h2.out⟩) | exact ⟨q1, q2⟩) | (with_reducible exact ⟨lcell G2 h1.out, lcell G2 h2.out⟩) | ((with_reducible show (World.alloc _ _).cell? _ = _ ∧ _); first | (with_reducible exact ⟨lcell (G2.then_none (grew_alloc _ _ _)) h1.out, lcell (G2.then_none (grew_alloc _ _ _)) h2.out⟩) | exact ⟨lcell ((GR.out.then_none (grew_drew1 _ none)).then_none (grew_alloc _ _ _)) h1.out, lcell ((GR.out.then_none (grew_drew1 _ none)).then_none (grew_alloc _ _ _)) h2.out⟩)) (first | ((go_at_call 13; (first | (with_reducible refine (HSr.out _ Bb.out).mono ?_) | (with_reducible refine (HSr.out _ (blk_old Bb.out _)).mono ?_) | (with_reducible refine (HSr.out _ (blk_drawn Bb.out _)).mono ?_) | (refine (HSr.out _ (by first | exact Bb.out | exact blk_old Bb.out _)).mono ?_)); rintro e w2 ⟨rfl, hbox, hgr⟩); have e2ga : Blk w2 ga 57 x'.cP := hgr.blkFar (by first | exact Ba.out | exact blk_old Ba.out _ | exact blk_drawn Ba.out _ | exact blk_old (blk_drawn Ba.out _) _ | exact blk_drawn (blk_old Ba.out _) _) Nab.out; have e2gh : Blk w2 gh 31 #[.int .i64 0, .int .i64 a1, .int .i64 a2, .int .i64 0, .int .i64 0, .int .i64 0, .int .u32 0, .int .u32 0, .int .u32 0, .int .u64 0, .int .u64 0, .int .u64 0, .int .u64 a12] := hgr.blkFar (by first | exact Bh.out | exact blk_old Bh.out _ | exact blk_drawn Bh.out _ | exact blk_old (blk_drawn Bh.out _) _ | exact blk_drawn (blk_old Bh.out _) _) (Ne.symm Nh.out); have G2 : Grew w w2 none := (by first | exact GR.out.nxtOwn hgr Lb.out rfl rfl rfl rfl | exact (GR.out.then_none (Grew.below (below_alloc (Below.refl _ _) (.cells #[.int .i64 0, .int .i64 0, .int .i64 0, .int .i64 0, .int .i64 0, .int .i64 0, .int .u32 0, .int .u32 0, .int .u32 0, .int .u64 0, .int .u64 0, .int .u64 0, .int .u64 0] 31 (0, 0))))).nxtOwn hgr Lb.out rfl rfl rfl rfl); (try (have hx : Blk w2 wz.heap.size 31 #[.int .i64 0, .int .i64 0, .int .i64 0, .int .i64 0, .int .i64 0, .int .i64 0, .int .u32 0, .int .u32 0, .int .u32 0, .int .u64 0, .int .u64 0, .int .u64 0, .int .u64 0] := hgr.blkFar (by exact blk_new wz _) (Nat.ne_of_gt Bb.out.lt); have cx0 := hx.cell 0 (v := .int .i64 0) rfl; have fx0 := hx.frozen 0; have cx1 := hx.cell 1 (v := .int .i64 0) rfl; have fx1 := hx.frozen 1; have cx2 := hx.cell 2 (v := .int .i64 0) rfl; have fx2 := hx.frozen 2; have cx3 := hx.cell 3 (v := .int .i64 0) rfl; have fx3 := hx.frozen 3; have cx4 := hx.cell 4 (v := .int .i64 0) rfl; have fx4 := hx.frozen 4; have cx5 := hx.cell 5 (v := .int .i64 0) rfl; have fx5 := hx.frozen 5; have cx6 := hx.cell 6 (v := .int .u32 0) rfl; have fx6 := hx.frozen 6; have cx7 := hx.cell 7 (v := .int .u32 0) rfl; have fx7 := hx.frozen 7; have cx8 := hx.cell 8 (v := .int .u32 0) rfl; have fx8 := hx.frozen 8; have cx9 := hx.cell 9 (v := .int .u64 0) rfl; have fx9 := hx.frozen 9; have cx10 := hx.cell 10 (v := .int .u64 0) rfl; have fx10 := hx.frozen 10; have cx11 := hx.cell 11 (v := .int .u64 0) rfl; have fx11 := hx.frozen 11; have cx12 := hx.cell 12 (v := .int .u64 0) rfl; have fx12 := hx.frozen 12))))
            all_goals first
              | (have hge : w.heap.size ≤ wz.heap.size := GR.out.size; have hbh := setsL_full [.int .i64 0, .int .i64 a1, .int .i64 a2, .int .i64 0, .int .i64 0, .int .i64 0, .int .u32 0, .int .u32 0, .int .u32 0, .int .u64 0, .int .u64 0, .int .u64 0, .int .u64 a12] w2 _ hx rfl; have hn_gb := Nat.ne_of_lt (Blk.lt (w := wz) Bb.out); have hb_gb := setsL_far hn_gb [.int .i64 0, .int .i64 a1, .int .i64 a2, .int .i64 0, .int .i64 0, .int .i64 0, .int .u32 0, .int .u32 0, .int .u32 0, .int .u64 0, .int .u64 0, .int .u64 0, .int .u64 a12] 0 w2 hbox; have hn_ga := Nat.ne_of_lt (Blk.lt (w := wz) Ba.out); have hb_ga := setsL_far hn_ga [.int .i64 0, .int .i64 a1, .int .i64 a2, .int .i64 0, .int .i64 0, .int .i64 0, .int .u32 0, .int .u32 0, .int .u32 0, .int .u64 0, .int .u64 0, .int .u64 0, .int .u64 a12] 0 w2 e2ga; have hn_gh := Nat.ne_of_lt (Blk.lt (w := wz) Bh.out); have hb_gh := setsL_far hn_gh [.int .i64 0, .int .i64 a1, .int .i64 a2, .int .i64 0, .int .i64 0, .int .i64 0, .int .u32 0, .int .u32 0, .int .u32 0, .int .u64 0, .int .u64 0, .int .u64 0, .int .u64 a12] 0 w2 e2gh; have hgg := setsL_grew hge [.int .i64 0, .int .i64 a1, .int .i64 a2, .int .i64 0, .int .i64 0, .int .i64 0, .int .u32 0, .int .u32 0, .int .u32 0, .int .u64 0, .int .u64 0, .int .u64 0, .int .u64 a12] 0 w2 G2; simp only [setsL, Nat.reduceAdd] at hbh hgg hb_gb hb_ga hb_gh; generalize (((((((((((((w2.setCell ⟨wz.heap.size, 0, none⟩ (.int .i64 0)).setCell ⟨wz.heap.size, 1, none⟩ (.int .i64 a1)).setCell ⟨wz.heap.size, 2, none⟩ (.int .i64 a2)).setCell ⟨wz.heap.size, 3, none⟩ (.int .i64 0)).setCell ⟨wz.heap.size, 4, none⟩ (.int .i64 0)).setCell ⟨wz.heap.size, 5, none⟩ (.int .i64 0)).setCell ⟨wz.heap.size, 6, none⟩ (.int .u32 0)).setCell ⟨wz.heap.size, 7, none⟩ (.int .u32 0)).setCell ⟨wz.heap.size, 8, none⟩ (.int .u32 0)).setCell ⟨wz.heap.size, 9, none⟩ (.int .u64 0)).setCell ⟨wz.heap.size, 10, none⟩ (.int .u64 0)).setCell ⟨wz.heap.size, 11, none⟩ (.int .u64 0)).setCell ⟨wz.heap.size, 12, none⟩ (.int .u64 a12)) = wy at hbh hgg hb_gb hb_ga hb_gh ⊢; generalize wz.heap.size = gj at hbh hn_gb hn_ga hn_gh ⊢)
              | (have hbh : Blk (w2.alloc (.cells #[.int .i64 0, .int .i64 a1, .int .i64 a2, .int .i64 0, .int .i64 0, .int .i64 0, .int .u32 0, .int .u32 0, .int .u32 0, .int .u64 0, .int .u64 0, .int .u64 0, .int .u64 a12] 31 (0, 0))) w2.heap.size 31 #[.int .i64 0, .int .i64 a1, .int .i64 a2, .int .i64 0, .int .i64 0, .int .i64 0, .int .u32 0, .int .u32 0, .int .u32 0, .int .u64 0, .int .u64 0, .int .u64 0, .int .u64 a12] := blk_new w2 _; have hn_gb := Nat.ne_of_lt (Blk.lt (w := w2) hbox); have hb_gb := blk_old hbox (.cells #[.int .i64 0, .int .i64 a1, .int .i64 a2, .int .i64 0, .int .i64 0, .int .i64 0, .int .u32 0, .int .u32 0, .int .u32 0, .int .u64 0, .int .u64 0, .int .u64 0, .int .u64 a12] 31 (0, 0)); have hn_ga := Nat.ne_of_lt (Blk.lt (w := w2) e2ga); have hb_ga := blk_old e2ga (.cells #[.int .i64 0, .int .i64 a1, .int .i64 a2, .int .i64 0, .int .i64 0, .int .i64 0, .int .u32 0, .int .u32 0, .int .u32 0, .int .u64 0, .int .u64 0, .int .u64 0, .int .u64 a12] 31 (0, 0)); have hn_gh := Nat.ne_of_lt (Blk.lt (w := w2) e2gh); have hb_gh := blk_old e2gh (.cells #[.int .i64 0, .int .i64 a1, .int .i64 a2, .int .i64 0, .int .i64 0, .int .i64 0, .int .u32 0, .int .u32 0, .int .u32 0, .int .u64 0, .int .u64 0, .int .u64 0, .int .u64 a12] 31 (0, 0)); have hgg : Grew w (w2.alloc (.cells #[.int .i64 0, .int .i64 a1, .int .i64 a2, .int .i64 0, .int .i64 0, .int .i64 0, .int .u32 0, .int .u32 0, .int .u32 0, .int .u64 0, .int .u64 0, .int .u64 0, .int .u64 a12] 31 (0, 0))) none := G2.then_none (Grew.below (below_alloc (Below.refl _ _) _)); generalize w2.alloc (.cells #[.int .i64 0, .int .i64 a1, .int .i64 a2, .int .i64 0, .int .i64 0, .int .i64 0, .int .u32 0, .int .u32 0, .int .u32 0, .int .u64 0, .int .u64 0, .int .u64 0, .int .u64 a12] 31 (0, 0)) = wy at hbh hgg hb_gb hb_ga hb_gh ⊢; generalize w2.heap.size = gj at hbh hn_gb hn_ga hn_gh ⊢)
            all_goals (clear q1 q2 hgr hbox G2 e2ga e2gh)
            all_goals (have y0 := hbh.cell 0 (v := .int .i64 0) rfl; have y1 := hbh.cell 1 (v := .int .i64 a1) rfl; have y2 := hbh.cell 2 (v := .int .i64 a2) rfl; have y3 := hbh.cell 3 (v := .int .i64 0) rfl; have y4 := hbh.cell 4 (v := .int .i64 0) rfl; have y5 := hbh.cell 5 (v := .int .i64 0) rfl; have y6 := hbh.cell 6 (v := .int .u32 0) rfl; have y7 := hbh.cell 7 (v := .int .u32 0) rfl; have y8 := hbh.cell 8 (v := .int .u32 0) rfl; have y9 := hbh.cell 9 (v := .int .u64 0) rfl; have y10 := hbh.cell 10 (v := .int .u64 0) rfl; have y11 := hbh.cell 11 (v := .int .u64 0) rfl; have y12 := hbh.cell 12 (v := .int .u64 a12) rfl; have z0 := hb_gh.cell 0 (v := .int .i64 0) rfl; have z1 := hb_gh.cell 1 (v := .int .i64 a1) rfl; have z2 := hb_gh.cell 2 (v := .int .i64 a2) rfl; have z3 := hb_gh.cell 3 (v := .int .i64 0) rfl; have z4 := hb_gh.cell 4 (v := .int .i64 0) rfl; have z5 := hb_gh.cell 5 (v := .int .i64 0) rfl; have z6 := hb_gh.cell 6 (v := .int .u32 0) rfl; have z7 := hb_gh.cell 7 (v := .int .u32 0) rfl; have z8 := hb_gh.cell 8 (v := .int .u32 0) rfl; have z9 := hb_gh.cell 9 (v := .int .u64 0) rfl; have z10 := hb_gh.cell 10 (v := .int .u64 0) rfl; have z11 := hb_gh.cell 11 (v := .int .u64 0) rfl; have z12 := hb_gh.cell 12 (v := .int .u64 a12) rfl)
            all_goals go_wp2_with fail
            all_goals go_meet
            all_goals exact ⟨x', NX, ⟨hb_ga⟩, ⟨hb_gb⟩, ⟨hgg⟩⟩
        · have o1 : ((rdo l x7).kd == 0) = false := beq_f ho
          clear ho
          obtain ⟨x', hx'⟩ : ∃ x, x = (recv s (rdo l x7).p (rdo l x7).now).2 := ⟨_, rfl⟩
          have NX : Aside0 x'.inv := ⟨by rw [hx']; exact recv_inv _ _ _ HS.out⟩
          obtain ⟨hd, hhd⟩ : ∃ h, h = out s (rdo l x7).p (rdo l x7).now := ⟨_, rfl⟩
          have HRv : Aside0 (∀ W, Blk W ga 57 s.cP → Calls Try.prog 14 #[.pointer (some ⟨ga, 0, none⟩), .agg #[.int .i64 (rdo l x7).p.p0, .int .i64 (rdo l x7).p.p1, .int .i64 (rdo l x7).p.p2, .int .i64 (rdo l x7).p.p3, .int .i64 (rdo l x7).p.p4, .int .i64 (rdo l x7).p.p5, .int .u32 (rdo l x7).p.p6, .int .u32 (rdo l x7).p.p7, .int .u32 (rdo l x7).p.p8, .int .u64 (rdo l x7).p.p9, .int .u64 (rdo l x7).p.p10, .int .u64 (rdo l x7).p.p11, .int .u64 (rdo l x7).p.p12], .int .i64 (rdo l x7).now] W fun e w' => e = .returned (.agg #[.int .i64 hd.k, .string hd.s, .int .i64 hd.q1, .int .i64 hd.q2, .int .i64 hd.q3, .int .i64 hd.q4]) ∧ Blk w' ga 57 x'.cP ∧ Grew W w' (some ga)) := ⟨fun W hW => by have := recvP_calls ga W s (rdo l x7).p (rdo l x7).now HS.out (Np.wf_ok WF.out.2.2.2) hW; rw [recv_1, ← hhd, ← hx'] at this; exact this⟩
          have HRr : Aside0 (∀ W, Blk W gb 59 s.cR → Calls Try.prog 15 #[.pointer (some ⟨gb, 0, none⟩), .agg #[.int .i64 (rdo l x7).p.p0, .int .i64 (rdo l x7).p.p1, .int .i64 (rdo l x7).p.p2, .int .i64 (rdo l x7).p.p3, .int .i64 (rdo l x7).p.p4, .int .i64 (rdo l x7).p.p5, .int .u32 (rdo l x7).p.p6, .int .u32 (rdo l x7).p.p7, .int .u32 (rdo l x7).p.p8, .int .u64 (rdo l x7).p.p9, .int .u64 (rdo l x7).p.p10, .int .u64 (rdo l x7).p.p11, .int .u64 (rdo l x7).p.p12], .int .i64 (rdo l x7).now] W fun e w' => e = .returned (.agg #[.int .i64 hd.k, .string hd.s, .int .i64 hd.q1, .int .i64 hd.q2, .int .i64 hd.q3, .int .i64 hd.q4]) ∧ Blk w' gb 59 x'.cR ∧ Grew W w' (some gb)) := ⟨fun W hW => by have := recvR_calls gb W s (rdo l x7).p (rdo l x7).now HS.out (Np.wf_ok WF.out.2.2.2) hW; rw [recv_1, ← hhd, ← hx'] at this; exact this⟩
          clear hx' hhd
          have q1 := lcell GR.out h1.out
          have q3 := lcell GR.out h3.out
          have q4 := lcell GR.out h4.out
          have q5 := lcell GR.out h5.out
          have q6 := lcell GR.out h6.out
          have q7 := lcell GR.out h7.out
          have q8 := lcell GR.out h8.out
          have q9 := lcell GR.out h9.out
          have q10 := lcell GR.out h10.out
          have q11 := lcell GR.out h11.out
          have q12 := lcell GR.out h12.out
          have q13 := lcell GR.out h13.out
          have q14 := lcell GR.out h14.out
          have q15 := lcell GR.out h15.out
          go_wp2_with fail
          go_region_held3 (fun w' => w'.cell? ⟨(ad.add (x7.toNat * 16)).block, (ad.add (x7.toNat * 16)).off + 1, none⟩ = some (.int .i64 (rdo l x7).now) ∧ w'.cell? ⟨(ad.add (x7.toNat * 16)).block, (ad.add (x7.toNat * 16)).off + 3, none⟩ = some (.int .i64 (rdo l x7).p.p0) ∧ w'.cell? ⟨(ad.add (x7.toNat * 16)).block, (ad.add (x7.toNat * 16)).off + 4, none⟩ = some (.int .i64 (rdo l x7).p.p1) ∧ w'.cell? ⟨(ad.add (x7.toNat * 16)).block, (ad.add (x7.toNat * 16)).off + 5, none⟩ = some (.int .i64 (rdo l x7).p.p2) ∧ w'.cell? ⟨(ad.add (x7.toNat * 16)).block, (ad.add (x7.toNat * 16)).off + 6, none⟩ = some (.int .i64 (rdo l x7).p.p3) ∧ w'.cell? ⟨(ad.add (x7.toNat * 16)).block, (ad.add (x7.toNat * 16)).off + 7, none⟩ = some (.int .i64 (rdo l x7).p.p4) ∧ w'.cell? ⟨(ad.add (x7.toNat * 16)).block, (ad.add (x7.toNat * 16)).off + 8, none⟩ = some (.int .i64 (rdo l x7).p.p5) ∧ w'.cell? ⟨(ad.add (x7.toNat * 16)).block, (ad.add (x7.toNat * 16)).off + 9, none⟩ = some (.int .u32 (rdo l x7).p.p6) ∧ w'.cell? ⟨(ad.add (x7.toNat * 16)).block, (ad.add (x7.toNat * 16)).off + 10, none⟩ = some (.int .u32 (rdo l x7).p.p7) ∧ w'.cell? ⟨(ad.add (x7.toNat * 16)).block, (ad.add (x7.toNat * 16)).off + 11, none⟩ = some (.int .u32 (rdo l x7).p.p8) ∧ w'.cell? ⟨(ad.add (x7.toNat * 16)).block, (ad.add (x7.toNat * 16)).off + 12, none⟩ = some (.int .u64 (rdo l x7).p.p9) ∧ w'.cell? ⟨(ad.add (x7.toNat * 16)).block, (ad.add (x7.toNat * 16)).off + 13, none⟩ = some (.int .u64 (rdo l x7).p.p10) ∧ w'.cell? ⟨(ad.add (x7.toNat * 16)).block, (ad.add (x7.toNat * 16)).off + 14, none⟩ = some (.int .u64 (rdo l x7).p.p11) ∧ w'.cell? ⟨(ad.add (x7.toNat * 16)).block, (ad.add (x7.toNat * 16)).off + 15, none⟩ = some (.int .u64 (rdo l x7).p.p12)) (first | (with_reducible exact ⟨q1, q3, q4, q5, q6, q7, q8, q9, q10, q11, q12, q13, q14, q15⟩) | ((with_reducible show (World.drew _).cell? _ = _ ∧ _); exact ⟨q1, q3, q4, q5, q6, q7, q8, q9, q10, q11, q12, q13, q14, q15⟩) | (with_reducible exact ⟨lcell G3 h1.out, lcell G3 h3.out, lcell G3 h4.out, lcell G3 h5.out, lcell G3 h6.out, lcell G3 h7.out, lcell G3 h8.out, lcell G3 h9.out, lcell G3 h10.out, lcell G3 h11.out, lcell G3 h12.out, lcell G3 h13.out, lcell G3 h14.out, lcell G3 h15.out⟩) | (with_reducible exact ⟨lcell G2 h1.out, lcell G2 h3.out, lcell G2 h4.out, lcell G2 h5.out, lcell G2 h6.out, lcell G2 h7.out, lcell G2 h8.out, lcell G2 h9.out, lcell G2 h10.out, lcell G2 h11.out, lcell G2 h12.out, lcell G2 h13.out, lcell G2 h14.out, lcell G2 h15.out⟩)) (first | ((go_at_call 14; (first | (with_reducible refine (HRv.out _ Ba.out).mono ?_) | (with_reducible refine (HRv.out _ (blk_old Ba.out _)).mono ?_) | (with_reducible refine (HRv.out _ (blk_drawn Ba.out _)).mono ?_) | (refine (HRv.out _ (by first | exact Ba.out | exact blk_old Ba.out _)).mono ?_)); rintro e w2 ⟨rfl, hbox, hgr⟩); have G2 : Grew w w2 none := GR.out.nxtOwn hgr La.out rfl rfl rfl rfl; have hb2 : Blk w2 gb 59 s.cR := hgr.blkFar (by first | exact Bb.out | exact blk_drawn Bb.out _) (Ne.symm Nab.out)) | ((go_at_call 15; (with_reducible refine (HRr.out _ hb2).mono ?_); rintro e w3 ⟨rfl, hbox3, hgr3⟩); have G3 : Grew w w3 none := G2.nxtOwn hgr3 Lb.out rfl rfl rfl rfl; have ha3 : Blk w3 ga 57 x'.cP := hgr3.blkFar hbox Nab.out))
          all_goals (go_wp2_with fail)
          all_goals go_meet
          all_goals exact ⟨x', NX, ⟨ha3⟩, ⟨hbox3⟩, ⟨G3⟩⟩
      case rest =>
        obtain ⟨x', NX, Ba2, Bb2, GR2⟩ := hcut
        clear Ba Bb GR
        have Ba := Ba2; have Bb := Bb2; have GR := GR2; clear Ba2 Bb2 GR2
        have PD : Aside0 (x'.cP[3]? = some (.bool x'.pd)) := ⟨rfl⟩
        have PE : Aside0 (x'.cR[2]? = some (.bool x'.pd)) := ⟨rfl⟩
        go_wp2_with (first
          | (go_at_call 16; (with_reducible refine (countsP_ok ga x'.zs _ rfl (fun j hj => by rcases (by omega : j = 0 ∨ j = 1 ∨ j = 2 ∨ j = 3 ∨ j = 4 ∨ j = 5 ∨ j = 6 ∨ j = 7) with h_ | h_ | h_ | h_ | h_ | h_ | h_ | h_ <;> subst h_ <;> exact Ba.out.cell _ rfl)).mono ?_); rintro e w5 ⟨b2, c2, rfl, hC, hcell, hle, hg5⟩; have HC5 := Aside0.mk hcell; clear hC hcell; replace Ba := Aside0.mk (hg5.blk Ba.out); replace Bb := Aside0.mk (hg5.blk Bb.out); replace GR := Aside0.mk (GR.out.nxt hg5 rfl rfl rfl rfl); clear hg5)
          | (go_at_call 17; (with_reducible refine (countsR_ok gb x'.zs _ rfl (fun j hj => by rcases (by omega : j = 0 ∨ j = 1 ∨ j = 2 ∨ j = 3 ∨ j = 4 ∨ j = 5 ∨ j = 6 ∨ j = 7) with h_ | h_ | h_ | h_ | h_ | h_ | h_ | h_ <;> subst h_ <;> exact Bb.out.cell _ rfl)).mono ?_); rintro e w6 ⟨b3, c3, rfl, hC, hcell, hle3, hg6⟩; have HC6 := Aside0.mk hcell; clear hC hcell; replace HC5 := Aside0.mk (fun j hj => lcell hg6 (HC5.out j hj)); replace Ba := Aside0.mk (hg6.blk Ba.out); replace Bb := Aside0.mk (hg6.blk Bb.out); replace GR := Aside0.mk (GR.out.nxt hg6 rfl rfl rfl rfl); clear hg6)
          | (go_at_call 18; (with_reducible refine (pendP_eq ga x'.pd _ x'.cP Ba.out PD.out).mono ?_); rintro e w_ ⟨rfl, rfl⟩)
          | (go_at_call 19; (with_reducible refine (pendR_eq gb x'.pd _ x'.cR Bb.out PE.out).mono ?_); rintro e w_ ⟨rfl, rfl⟩))
        go_loopg [14] 8 (fun kq v14 w' => ∃ (x14 : Int), v14 = .int .i64 x14 ∧ Aside0 (0 ≤ x14 ∧ x14 + (kq : Int) = 8) ∧ Aside0 (∀ j, j < 8 → w'.cell? ⟨b2, j, none⟩ = some (.int .i64 (x'.zs.getD j 0))) ∧ Aside0 (∀ j, j < 8 → w'.cell? ⟨b3, j, none⟩ = some (.int .i64 (x'.zs.getD j 0))) ∧ Aside0 (Blk w' ga 57 x'.cP) ∧ Aside0 (Blk w' gb 59 x'.cR) ∧ Aside0 (Grew w w' none))
        case atStart => exact ⟨0, rfl, ⟨by omega⟩, HC5, HC6, Ba, Bb, GR⟩
        case round =>
          obtain ⟨x14, rfl, HJ, HP5, HP6, HA, HB, HG⟩ := hrel
          clear GR Ba Bb HC5 HC6
          by_cases hx : x14 < 8
          · have hx1 := HJ.out.1
            obtain ⟨k2, rfl⟩ : ∃ k2, gk = k2 + 1 := ⟨gk - 1, by have := HJ.out; omega⟩
            obtain ⟨j, rfl⟩ : ∃ j : Nat, x14 = j := ⟨x14.toNat, by omega⟩
            have q5 := HP5.out j (by omega)
            have q6 := HP6.out j (by omega)
            have d1 : decide ((j : Int) < 8) = true := decide_eq_true hx
            have d2 := eq_true hx1
            have d3 : decide (0 ≤ (j : Int)) = true := decide_eq_true hx1
            have d5 : ((j : Int) < 8) = True := eq_true hx
            have hj8 : j < 8 := by omega
            clear hx hx1
            go_wp2_with fail
            go_quiet (fail)
            go_wp2_with fail
            go_roundg k2
            case measure => exact Nat.lt_succ_self _
            case rel => exact ⟨(j : Int) + 1, by first | rfl | rw [iw_in ((j : Int) + 1) (by omega) (by omega)], ⟨by have := HJ.out; omega⟩, HP5, HP6, HA, HB, ⟨HG.out.drawn _⟩⟩
          · have d1 : decide (x14 < 8) = false := decide_eq_false hx
            clear hx
            go_wp2_with fail
            go_roundg k1
            case measure => exact Nat.lt_succ_self _
            case rel => exact ⟨x', x7 + 1, by first | rfl | rw [iw_in (x7 + 1) (by have := HI.out; omega) (by omega)], ⟨by have := HI.out; omega⟩, NX, HA, HB, HG⟩
    · have c1 : decide (x7 < (l.length : Int)) = false := decide_eq_false hlt
      clear hlt
      go_wp2_with (go_at_call 11; (with_reducible refine (awake_ok _).mono ?_); rintro e w3 ⟨rfl, hg3⟩)
      go_ret
      exact ⟨rfl, GR.out.nxt hg3 rfl rfl rfl rfl⟩
end Go.Proofs.Ytohjmfjdopffkaa.As
