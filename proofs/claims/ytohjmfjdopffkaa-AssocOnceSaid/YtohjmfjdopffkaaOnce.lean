/- AssocOnce: the walk: a loop over calls. -/
import Derived.Test.YtohjmfjdopffkaaOb
import Derived.Test.YtohjmfjdopffkaaAwake
import Derived.Test.YtohjmfjdopffkaaOnceP
import Derived.WalkSpells
import Derived.Deep.QuietTactic
import Derived.BigQuiet
import Derived.Deep.RegionHeld3
namespace Go.Proofs.Ytohjmfjdopffkaa.As
open Go Go.RowKit Go.Proofs.YtohjmfjdopffkaaW.PrintWords Go.Proofs.YtohjmfjdopffkaaW.PrintLast Go.Proofs.YtohjmfjdopffkaaW.PrintMore Go.Proofs.Ytohjmfjdopffkaa.PAs Go.Proofs.Ytohjmfjdopffkaa.AsP Go.Proofs.Ytohjmfjdopffkaa.FxAs Go.Proofs.Ytohjmfjdopffkaa.Math Go.Proofs.Ytohjmfjdopffkaa.Ob
attribute [local go_sem] max2_int min2_int max_two min_two max_three min_three max_four min_four
set_option linter.unusedVariables false
set_option linter.unusedSimpArgs false
set_option maxHeartbeats 8000000 in
set_option maxRecDepth 100000 in
theorem once_main (w : World) (v : Int) (A : Option Addr) (cap : Nat) (l : List Opn) (h1 : Aside0 (decide (1 ≤ v) = true)) (h2 : Aside0 (decide (v ≤ 4) = true)) (h60 : l.length ≤ 60) (hlc : l.length ≤ cap) (hC : Kd.C kop w A l.length l) (hQ : ∀ a ∈ l, a.wf) : Calls Try.prog 4 #[.int .i64 v, .slice A l.length cap] w fun e w' => e = .returned (.bool true) ∧ Grew w w' none := by
  have GR : Aside0 (Grew w w none) := Aside0.mk (Grew.refl w none)
  have HC := Aside0.mk hC
  have HQ := Aside0.mk hQ
  clear hC hQ
  have c60 : decide (60 < (l.length : Int)) = false := decide_eq_false (by omega)
  go_enter Try.func4, Try.ntmps4
  go_wp2_with (first
    | (go_at_call 9; (with_reducible refine (newP_ok v (of_decide_eq_true h1.out) (of_decide_eq_true h2.out) _).mono ?_); rintro e w1 ⟨ga, rfl, hle, hbox, hgr⟩; have La := Aside0.mk (GR.out.young hgr rfl hle); clear hle; have Ba := Aside0.mk hbox; clear hbox; replace GR := Aside0.mk (GR.out.nxt hgr rfl rfl rfl rfl); clear hgr))
  go_loopg [6, 7, 8, 9] l.length (fun kq v6 v7 v8 v9 w' => ∃ (s : S) (r x9 : Int), v6 = .bool s.pd ∧ v7 = .int .u64 s.n ∧ v8 = .int .i64 r ∧ v9 = .int .i64 x9 ∧ Aside0 (0 ≤ x9 ∧ x9 + (kq : Int) = l.length) ∧ Aside0 (s.inv ∧ s.ver = v ∧ CS s r ∧ 0 ≤ r ∧ r ≤ x9) ∧ Aside0 (Blk w' ga 57 s.cP) ∧ Aside0 (Grew w w' none))
  case atStart => exact ⟨(⟨v, 0, 0, false, 0, 0, 0, 0, 0, 0, 0, 0, 0⟩ : S), 0, 0, rfl, rfl, rfl, rfl, ⟨by omega⟩, ⟨fun _ => ⟨rfl, rfl⟩, rfl, ⟨Int.le_refl _, Int.le_refl _, Int.le_refl _, Int.le_refl _, Int.le_refl _, Int.le_refl _, Int.le_refl _, Int.le_refl _, rfl⟩, by omega, by omega⟩, Ba, GR⟩
  case round =>
    obtain ⟨s, r, x9, rfl, rfl, rfl, rfl, HI, HS, HB, HG⟩ := hrel
    clear GR Ba
    have GR := HG; clear HG
    have Ba := HB; clear HB
    have L60 := Aside0.mk h60
    clear h60
    by_cases hlt : x9 < l.length
    · have hx0 := HI.out.1
      obtain ⟨ad, e_, g0, g1, g2, g3, g4, g5, g6, g7, g8, g9, g10, g11, g12, g13, g14, g15⟩ := at_op HC.out x9 hx0 hlt
      cases e_
      have h0 := Aside0.mk g0; clear g0
      have h1 := Aside0.mk g1; clear g1
      have h2 := Aside0.mk g2; clear g2
      have h3 := Aside0.mk g3; clear g3
      have h4 := Aside0.mk g4; clear g4
      have h5 := Aside0.mk g5; clear g5
      have h6 := Aside0.mk g6; clear g6
      have h7 := Aside0.mk g7; clear g7
      have h8 := Aside0.mk g8; clear g8
      have h9 := Aside0.mk g9; clear g9
      have h10 := Aside0.mk g10; clear g10
      have h11 := Aside0.mk g11; clear g11
      have h12 := Aside0.mk g12; clear g12
      have h13 := Aside0.mk g13; clear g13
      have h14 := Aside0.mk g14; clear g14
      have h15 := Aside0.mk g15; clear g15
      have WF := Aside0.mk (rdo_wf HQ.out x9 hx0 hlt)
      obtain ⟨k1, rfl⟩ : ∃ k1, gk = k1 + 1 := ⟨gk - 1, by have := HI.out; omega⟩
      have hb9 : x9 ≤ 60 := by have := L60.out; omega
      have c1 : decide (x9 < (l.length : Int)) = true := decide_eq_true hlt
      have c2 := eq_true hx0
      have c3 := eq_true hlt
      have c4 : decide (0 ≤ x9) = true := decide_eq_true hx0
      clear hlt hx0
      have q0 := lcell GR.out h0.out
      by_cases ho : (rdo l x9).kd = 0
      · have o1 : ((rdo l x9).kd == 0) = true := beq_iff_eq.mpr ho
        clear ho
        obtain ⟨a1, a2, a12, hst, hz, hnz⟩ := sent_form s (rdo l x9).now (rdo l x9).nonce
        obtain ⟨c, hc⟩ : ∃ c, c = (send s (rdo l x9).now (rdo l x9).nonce).1 := ⟨_, rfl⟩
        obtain ⟨x', hx'⟩ : ∃ x, x = (send s (rdo l x9).now (rdo l x9).nonce).2 := ⟨_, rfl⟩
        rw [← hc] at hst hz hnz
        have CS2 : Aside0 (CS x' r ∧ r ≤ 60) := ⟨by rw [hx']; exact HS.out.2.2.1.send _ _, by have := HS.out; omega⟩
        have NX : Aside0 (x'.inv ∧ x'.ver = v) := ⟨by rw [hx']; exact ⟨send_inv _ _ _ HS.out.1, (send_ver _ _ _).trans HS.out.2.1⟩⟩
        have HSn : Aside0 (∀ W, Blk W ga 57 s.cP → Calls Try.prog 12 #[.pointer (some ⟨ga, 0, none⟩), .int .i64 (rdo l x9).now, .int .u64 (rdo l x9).nonce] W fun e w' => e = .returned (.tuple #[.agg #[.int .i64 0, .int .i64 a1, .int .i64 a2, .int .i64 0, .int .i64 0, .int .i64 0, .int .u32 0, .int .u32 0, .int .u32 0, .int .u64 0, .int .u64 0, .int .u64 0, .int .u64 a12], .int .i64 c]) ∧ Blk w' ga 57 x'.cP ∧ Grew W w' (some ga)) := ⟨fun W hW => by have := sendP_calls ga W s (rdo l x9).now (rdo l x9).nonce hW; rw [hst, ← hx'] at this; exact this⟩
        clear hst
        have HC0 := Aside0.mk hc; have HX0 := Aside0.mk hx'; have HZ0 := Aside0.mk hz; have HN0 := Aside0.mk hnz; clear hc hx' hz hnz
        go_wp2_with fail
        have q1 := lcell GR.out h1.out
        have q2 := lcell GR.out h2.out
        go_region_held3 (fun w' => w'.cell? ⟨(ad.add (x9.toNat * 16)).block, (ad.add (x9.toNat * 16)).off + 1, none⟩ = some (.int .i64 (rdo l x9).now) ∧ w'.cell? ⟨(ad.add (x9.toNat * 16)).block, (ad.add (x9.toNat * 16)).off + 2, none⟩ = some (.int .u64 (rdo l x9).nonce)) (first | ((with_reducible show (World.setCell _ _ _).cell? _ = _ ∧ _); have hge : w.heap.size ≤ wr.heap.size := GR.out.size; have G3 := setsL_grew hge [.int .i64 0, .int .i64 a1, .int .i64 a2, .int .i64 0, .int .i64 0, .int .i64 0, .int .u32 0, .int .u32 0, .int .u32 0, .int .u64 0, .int .u64 0, .int .u64 0, .int .u64 a12] 0 w2 G2; exact ⟨lcell G3 h1.out, lcell G3 h2.out⟩) | (with_reducible exact ⟨q1, q2⟩) | ((with_reducible show (World.drew _).cell? _ = _ ∧ _); first | (with_reducible exact ⟨lcell ((GR.out.then_none (grew_alloc _ _ _)).then_none (grew_drew1 _ none)) h1.out, lcell ((GR.out.then_none (grew_alloc _ _ _)).then_none (grew_drew1 _ none)) h2.out⟩) | exact ⟨q1, q2⟩) | (with_reducible exact ⟨lcell G2 h1.out, lcell G2 h2.out⟩) | ((with_reducible show (World.alloc _ _).cell? _ = _ ∧ _); first | (with_reducible exact ⟨lcell (G2.then_none (grew_alloc _ _ _)) h1.out, lcell (G2.then_none (grew_alloc _ _ _)) h2.out⟩) | exact ⟨lcell ((GR.out.then_none (grew_drew1 _ none)).then_none (grew_alloc _ _ _)) h1.out, lcell ((GR.out.then_none (grew_drew1 _ none)).then_none (grew_alloc _ _ _)) h2.out⟩)) (first | ((go_at_call 12; (first | (with_reducible refine (HSn.out _ Ba.out).mono ?_) | (with_reducible refine (HSn.out _ (blk_old Ba.out _)).mono ?_) | (with_reducible refine (HSn.out _ (blk_drawn Ba.out _)).mono ?_) | (refine (HSn.out _ (by first | exact Ba.out | exact blk_old Ba.out _)).mono ?_)); rintro e w2 ⟨rfl, hbox, hgr⟩); have G2 : Grew w w2 none := (by first | exact GR.out.nxtOwn hgr La.out rfl rfl rfl rfl | exact (GR.out.then_none (Grew.below (below_alloc (Below.refl _ _) (.cells #[.int .i64 0, .int .i64 0, .int .i64 0, .int .i64 0, .int .i64 0, .int .i64 0, .int .u32 0, .int .u32 0, .int .u32 0, .int .u64 0, .int .u64 0, .int .u64 0, .int .u64 0] 31 (0, 0))))).nxtOwn hgr La.out rfl rfl rfl rfl); (try (have hx : Blk w2 wr.heap.size 31 #[.int .i64 0, .int .i64 0, .int .i64 0, .int .i64 0, .int .i64 0, .int .i64 0, .int .u32 0, .int .u32 0, .int .u32 0, .int .u64 0, .int .u64 0, .int .u64 0, .int .u64 0] := hgr.blkFar (by exact blk_new wr _) (Nat.ne_of_gt Ba.out.lt); have cx0 := hx.cell 0 (v := .int .i64 0) rfl; have fx0 := hx.frozen 0; have cx1 := hx.cell 1 (v := .int .i64 0) rfl; have fx1 := hx.frozen 1; have cx2 := hx.cell 2 (v := .int .i64 0) rfl; have fx2 := hx.frozen 2; have cx3 := hx.cell 3 (v := .int .i64 0) rfl; have fx3 := hx.frozen 3; have cx4 := hx.cell 4 (v := .int .i64 0) rfl; have fx4 := hx.frozen 4; have cx5 := hx.cell 5 (v := .int .i64 0) rfl; have fx5 := hx.frozen 5; have cx6 := hx.cell 6 (v := .int .u32 0) rfl; have fx6 := hx.frozen 6; have cx7 := hx.cell 7 (v := .int .u32 0) rfl; have fx7 := hx.frozen 7; have cx8 := hx.cell 8 (v := .int .u32 0) rfl; have fx8 := hx.frozen 8; have cx9 := hx.cell 9 (v := .int .u64 0) rfl; have fx9 := hx.frozen 9; have cx10 := hx.cell 10 (v := .int .u64 0) rfl; have fx10 := hx.frozen 10; have cx11 := hx.cell 11 (v := .int .u64 0) rfl; have fx11 := hx.frozen 11; have cx12 := hx.cell 12 (v := .int .u64 0) rfl; have fx12 := hx.frozen 12))))
        all_goals first
            | (have hm := Nat.ne_of_lt (Blk.lt (w := wr) Ba.out); have hge : w.heap.size ≤ wr.heap.size := GR.out.size; have hbh := setsL_full [.int .i64 0, .int .i64 a1, .int .i64 a2, .int .i64 0, .int .i64 0, .int .i64 0, .int .u32 0, .int .u32 0, .int .u32 0, .int .u64 0, .int .u64 0, .int .u64 0, .int .u64 a12] w2 _ hx rfl; have hba := setsL_far hm [.int .i64 0, .int .i64 a1, .int .i64 a2, .int .i64 0, .int .i64 0, .int .i64 0, .int .u32 0, .int .u32 0, .int .u32 0, .int .u64 0, .int .u64 0, .int .u64 0, .int .u64 a12] 0 w2 hbox; have hgg := setsL_grew hge [.int .i64 0, .int .i64 a1, .int .i64 a2, .int .i64 0, .int .i64 0, .int .i64 0, .int .u32 0, .int .u32 0, .int .u32 0, .int .u64 0, .int .u64 0, .int .u64 0, .int .u64 a12] 0 w2 G2; simp only [setsL, Nat.reduceAdd] at hbh hba hgg; generalize (((((((((((((w2.setCell ⟨wr.heap.size, 0, none⟩ (.int .i64 0)).setCell ⟨wr.heap.size, 1, none⟩ (.int .i64 a1)).setCell ⟨wr.heap.size, 2, none⟩ (.int .i64 a2)).setCell ⟨wr.heap.size, 3, none⟩ (.int .i64 0)).setCell ⟨wr.heap.size, 4, none⟩ (.int .i64 0)).setCell ⟨wr.heap.size, 5, none⟩ (.int .i64 0)).setCell ⟨wr.heap.size, 6, none⟩ (.int .u32 0)).setCell ⟨wr.heap.size, 7, none⟩ (.int .u32 0)).setCell ⟨wr.heap.size, 8, none⟩ (.int .u32 0)).setCell ⟨wr.heap.size, 9, none⟩ (.int .u64 0)).setCell ⟨wr.heap.size, 10, none⟩ (.int .u64 0)).setCell ⟨wr.heap.size, 11, none⟩ (.int .u64 0)).setCell ⟨wr.heap.size, 12, none⟩ (.int .u64 a12)) = wz at hbh hba hgg ⊢; generalize wr.heap.size = gh at hbh ⊢)
            | (have hbh : Blk (w2.alloc (.cells #[.int .i64 0, .int .i64 a1, .int .i64 a2, .int .i64 0, .int .i64 0, .int .i64 0, .int .u32 0, .int .u32 0, .int .u32 0, .int .u64 0, .int .u64 0, .int .u64 0, .int .u64 a12] 31 (0, 0))) w2.heap.size 31 #[.int .i64 0, .int .i64 a1, .int .i64 a2, .int .i64 0, .int .i64 0, .int .i64 0, .int .u32 0, .int .u32 0, .int .u32 0, .int .u64 0, .int .u64 0, .int .u64 0, .int .u64 a12] := blk_new w2 _; have hba := blk_old hbox (.cells #[.int .i64 0, .int .i64 a1, .int .i64 a2, .int .i64 0, .int .i64 0, .int .i64 0, .int .u32 0, .int .u32 0, .int .u32 0, .int .u64 0, .int .u64 0, .int .u64 0, .int .u64 a12] 31 (0, 0)); have hgg : Grew w (w2.alloc (.cells #[.int .i64 0, .int .i64 a1, .int .i64 a2, .int .i64 0, .int .i64 0, .int .i64 0, .int .u32 0, .int .u32 0, .int .u32 0, .int .u64 0, .int .u64 0, .int .u64 0, .int .u64 a12] 31 (0, 0))) none := G2.then_none (Grew.below (below_alloc (Below.refl _ _) _)); generalize w2.alloc (.cells #[.int .i64 0, .int .i64 a1, .int .i64 a2, .int .i64 0, .int .i64 0, .int .i64 0, .int .u32 0, .int .u32 0, .int .u32 0, .int .u64 0, .int .u64 0, .int .u64 0, .int .u64 a12] 31 (0, 0)) = wz at hbh hba hgg ⊢; generalize w2.heap.size = gh at hbh ⊢)
        all_goals (clear q1 q2 hgr hbox G2)
        all_goals
            by_cases hs : c = 0
            · obtain ⟨rfl, rfl, rfl⟩ := HZ0.out hs
              subst hs
              have hsk := send_0 s (rdo l x9).now (rdo l x9).nonce HC0.out.symm
              have PD : Aside0 (x'.cP[3]? = some (.bool true)) := ⟨by rw [HX0.out, hsk.2.2.2]; rfl⟩
              have PX : Aside0 (x'.pd = true ∧ x'.n = (rdo l x9).nonce) := ⟨by rw [HX0.out]; exact ⟨by rw [hsk.2.2.2], by rw [hsk.2.2.2]⟩⟩
              have sv : s.ver = v := HS.out.2.1
              rw [sv] at hbh
              clear sv
              have n1 : ((rdo l x9).nonce == 0) = false := beq_f hsk.2.1
              have n2 : ((rdo l x9).nonce == s.n) = false := beq_f hsk.2.2.1
              clear hsk
              have y0 := hbh.cell 0 (v := .int .i64 0) rfl; have y1 := hbh.cell 1 (v := .int .i64 v) rfl; have y2 := hbh.cell 2 (v := .int .i64 3) rfl; have y3 := hbh.cell 3 (v := .int .i64 0) rfl; have y4 := hbh.cell 4 (v := .int .i64 0) rfl; have y5 := hbh.cell 5 (v := .int .i64 0) rfl; have y6 := hbh.cell 6 (v := .int .u32 0) rfl; have y7 := hbh.cell 7 (v := .int .u32 0) rfl; have y8 := hbh.cell 8 (v := .int .u32 0) rfl; have y9 := hbh.cell 9 (v := .int .u64 0) rfl; have y10 := hbh.cell 10 (v := .int .u64 0) rfl; have y11 := hbh.cell 11 (v := .int .u64 0) rfl; have y12 := hbh.cell 12 (v := .int .u64 (rdo l x9).nonce) rfl; have q2 := lcell hgg h2.out
              go_wp2_with fail
              go_quiet (fail)
              (go_wp2_with (first | (go_at_call 18; (first | (with_reducible refine (pendP_eq ga true _ x'.cP hba PD.out).mono ?_) | (with_reducible refine (pendP_eq ga true _ x'.cP (blk_drawn hba _) PD.out).mono ?_)); rintro e w_ ⟨rfl, rfl⟩) | (go_at_call 16; (with_reducible refine (countsP_ok ga x'.zs _ rfl (fun j hj => by rcases (by omega : j = 0 ∨ j = 1 ∨ j = 2 ∨ j = 3 ∨ j = 4 ∨ j = 5 ∨ j = 6 ∨ j = 7) with h_ | h_ | h_ | h_ | h_ | h_ | h_ | h_ <;> subst h_ <;> first | exact hba.cell _ rfl | exact (blk_drawn hba _).cell _ rfl)).mono ?_); rintro e w5 ⟨b2, c2, rfl, hC, hcell, hle, hg5⟩; have HC5 := Aside0.mk hC; have HL5 := Aside0.mk hle; clear hC hcell hle) | (go_at_call 20; (with_reducible refine (sum_calls x' r b2 c2 _ HC5.out HL5.out CS2.out.1 (Int.le_trans CS2.out.2 (by omega))).mono ?_); rintro e w6 ⟨rfl, hg6⟩)))
              go_roundg k1
              all_goals first
                  | exact Nat.lt_succ_self _
                  | exact ⟨x', r, x9 + 1, by rw [PX.out.1], by rw [PX.out.2], rfl, by rw [iw_in (x9 + 1) (by have := HI.out; omega) (by omega)], ⟨by have := HI.out; omega⟩, ⟨NX.out.1, NX.out.2, CS2.out.1, by have := HS.out; omega, by have := HS.out; omega⟩, ⟨(Grew.drawn0 hg6).blk (hg5.blk hba)⟩, ⟨(hgg.nxt hg5 rfl rfl rfl rfl).nxt (Grew.drawn0 hg6) rfl rfl rfl rfl⟩⟩
            · obtain ⟨rfl, rfl, rfl⟩ := HN0.out hs
              have hsk := send_err s (rdo l x9).now (rdo l x9).nonce (by rw [← HC0.out]; exact hs)
              have PX : Aside0 (x'.pd = s.pd ∧ x'.n = s.n) := ⟨by rw [HX0.out, hsk]; exact ⟨rfl, rfl⟩⟩
              have PD : Aside0 (x'.cP[3]? = some (.bool s.pd)) := ⟨by rw [HX0.out, hsk]; rfl⟩
              have cz : (c == 0) = false := beq_f hs
              have cz2 : (c != 0) = true := bne_iff_ne.mpr hs
              clear hs hsk
              have y0 := hbh.cell 0 (v := .int .i64 0) rfl; have y1 := hbh.cell 1 (v := .int .i64 0) rfl; have y2 := hbh.cell 2 (v := .int .i64 0) rfl; have y3 := hbh.cell 3 (v := .int .i64 0) rfl; have y4 := hbh.cell 4 (v := .int .i64 0) rfl; have y5 := hbh.cell 5 (v := .int .i64 0) rfl; have y6 := hbh.cell 6 (v := .int .u32 0) rfl; have y7 := hbh.cell 7 (v := .int .u32 0) rfl; have y8 := hbh.cell 8 (v := .int .u32 0) rfl; have y9 := hbh.cell 9 (v := .int .u64 0) rfl; have y10 := hbh.cell 10 (v := .int .u64 0) rfl; have y11 := hbh.cell 11 (v := .int .u64 0) rfl; have y12 := hbh.cell 12 (v := .int .u64 0) rfl; have q2 := lcell hgg h2.out
              (go_wp2_with (first | (go_at_call 18; (first | (with_reducible refine (pendP_eq ga s.pd _ x'.cP hba PD.out).mono ?_) | (with_reducible refine (pendP_eq ga s.pd _ x'.cP (blk_drawn hba _) PD.out).mono ?_)); rintro e w_ ⟨rfl, rfl⟩) | (go_at_call 16; (with_reducible refine (countsP_ok ga x'.zs _ rfl (fun j hj => by rcases (by omega : j = 0 ∨ j = 1 ∨ j = 2 ∨ j = 3 ∨ j = 4 ∨ j = 5 ∨ j = 6 ∨ j = 7) with h_ | h_ | h_ | h_ | h_ | h_ | h_ | h_ <;> subst h_ <;> first | exact hba.cell _ rfl | exact (blk_drawn hba _).cell _ rfl)).mono ?_); rintro e w5 ⟨b2, c2, rfl, hC, hcell, hle, hg5⟩; have HC5 := Aside0.mk hC; have HL5 := Aside0.mk hle; clear hC hcell hle) | (go_at_call 20; (with_reducible refine (sum_calls x' r b2 c2 _ HC5.out HL5.out CS2.out.1 (Int.le_trans CS2.out.2 (by omega))).mono ?_); rintro e w6 ⟨rfl, hg6⟩)))
              all_goals go_roundg k1
              all_goals first
                  | exact Nat.lt_succ_self _
                  | exact ⟨x', r, x9 + 1, by rw [PX.out.1], by rw [PX.out.2], rfl, by rw [iw_in (x9 + 1) (by have := HI.out; omega) (by omega)], ⟨by have := HI.out; omega⟩, ⟨NX.out.1, NX.out.2, CS2.out.1, by have := HS.out; omega, by have := HS.out; omega⟩, ⟨(Grew.drawn0 hg6).blk (hg5.blk hba)⟩, ⟨(hgg.nxt hg5 rfl rfl rfl rfl).nxt (Grew.drawn0 hg6) rfl rfl rfl rfl⟩⟩
      · have o1 : ((rdo l x9).kd == 0) = false := beq_f ho
        clear ho
        have er : wrap64 (r + 1) = r + 1 := iw_in _ (by have := HS.out; omega) (by have := HS.out; omega)
        obtain ⟨x', hx'⟩ : ∃ x, x = (recv s (rdo l x9).p (rdo l x9).now).2 := ⟨_, rfl⟩
        have NX : Aside0 (x'.inv ∧ x'.ver = v) := ⟨by rw [hx']; exact ⟨recv_inv _ _ _ HS.out.1, (recv_ver _ _ _).trans HS.out.2.1⟩⟩
        have CS2 : Aside0 (CS x' (r + 1) ∧ r + 1 ≤ 61) := ⟨by rw [hx']; exact HS.out.2.2.1.recv (by have := HS.out; omega) _ _, by have := HS.out; omega⟩
        obtain ⟨hd, hhd⟩ : ∃ h, h = out s (rdo l x9).p (rdo l x9).now := ⟨_, rfl⟩
        have HRv : Aside0 (∀ W, Blk W ga 57 s.cP → Calls Try.prog 14 #[.pointer (some ⟨ga, 0, none⟩), .agg #[.int .i64 (rdo l x9).p.p0, .int .i64 (rdo l x9).p.p1, .int .i64 (rdo l x9).p.p2, .int .i64 (rdo l x9).p.p3, .int .i64 (rdo l x9).p.p4, .int .i64 (rdo l x9).p.p5, .int .u32 (rdo l x9).p.p6, .int .u32 (rdo l x9).p.p7, .int .u32 (rdo l x9).p.p8, .int .u64 (rdo l x9).p.p9, .int .u64 (rdo l x9).p.p10, .int .u64 (rdo l x9).p.p11, .int .u64 (rdo l x9).p.p12], .int .i64 (rdo l x9).now] W fun e w' => e = .returned (.agg #[.int .i64 hd.k, .string hd.s, .int .i64 hd.q1, .int .i64 hd.q2, .int .i64 hd.q3, .int .i64 hd.q4]) ∧ Blk w' ga 57 x'.cP ∧ Grew W w' (some ga)) := ⟨fun W hW => by have := recvP_calls ga W s (rdo l x9).p (rdo l x9).now HS.out.1 (Np.wf_ok WF.out.2.2.2) hW; rw [recv_1, ← hhd, ← hx'] at this; exact this⟩
        have HX0 := Aside0.mk hx'; have HD0 := Aside0.mk hhd; clear hx' hhd
        go_wp2_with fail
        have q1 := lcell GR.out h1.out
        have q3 := lcell GR.out h3.out
        have q4 := lcell GR.out h4.out
        have q5 := lcell GR.out h5.out
        have q6 := lcell GR.out h6.out
        have q7 := lcell GR.out h7.out
        have q8 := lcell GR.out h8.out
        have q9 := lcell GR.out h9.out
        have q10 := lcell GR.out h10.out
        have q11 := lcell GR.out h11.out
        have q12 := lcell GR.out h12.out
        have q13 := lcell GR.out h13.out
        have q14 := lcell GR.out h14.out
        have q15 := lcell GR.out h15.out
        go_region_held3 (fun w' => w'.cell? ⟨(ad.add (x9.toNat * 16)).block, (ad.add (x9.toNat * 16)).off + 1, none⟩ = some (.int .i64 (rdo l x9).now) ∧ w'.cell? ⟨(ad.add (x9.toNat * 16)).block, (ad.add (x9.toNat * 16)).off + 3, none⟩ = some (.int .i64 (rdo l x9).p.p0) ∧ w'.cell? ⟨(ad.add (x9.toNat * 16)).block, (ad.add (x9.toNat * 16)).off + 4, none⟩ = some (.int .i64 (rdo l x9).p.p1) ∧ w'.cell? ⟨(ad.add (x9.toNat * 16)).block, (ad.add (x9.toNat * 16)).off + 5, none⟩ = some (.int .i64 (rdo l x9).p.p2) ∧ w'.cell? ⟨(ad.add (x9.toNat * 16)).block, (ad.add (x9.toNat * 16)).off + 6, none⟩ = some (.int .i64 (rdo l x9).p.p3) ∧ w'.cell? ⟨(ad.add (x9.toNat * 16)).block, (ad.add (x9.toNat * 16)).off + 7, none⟩ = some (.int .i64 (rdo l x9).p.p4) ∧ w'.cell? ⟨(ad.add (x9.toNat * 16)).block, (ad.add (x9.toNat * 16)).off + 8, none⟩ = some (.int .i64 (rdo l x9).p.p5) ∧ w'.cell? ⟨(ad.add (x9.toNat * 16)).block, (ad.add (x9.toNat * 16)).off + 9, none⟩ = some (.int .u32 (rdo l x9).p.p6) ∧ w'.cell? ⟨(ad.add (x9.toNat * 16)).block, (ad.add (x9.toNat * 16)).off + 10, none⟩ = some (.int .u32 (rdo l x9).p.p7) ∧ w'.cell? ⟨(ad.add (x9.toNat * 16)).block, (ad.add (x9.toNat * 16)).off + 11, none⟩ = some (.int .u32 (rdo l x9).p.p8) ∧ w'.cell? ⟨(ad.add (x9.toNat * 16)).block, (ad.add (x9.toNat * 16)).off + 12, none⟩ = some (.int .u64 (rdo l x9).p.p9) ∧ w'.cell? ⟨(ad.add (x9.toNat * 16)).block, (ad.add (x9.toNat * 16)).off + 13, none⟩ = some (.int .u64 (rdo l x9).p.p10) ∧ w'.cell? ⟨(ad.add (x9.toNat * 16)).block, (ad.add (x9.toNat * 16)).off + 14, none⟩ = some (.int .u64 (rdo l x9).p.p11) ∧ w'.cell? ⟨(ad.add (x9.toNat * 16)).block, (ad.add (x9.toNat * 16)).off + 15, none⟩ = some (.int .u64 (rdo l x9).p.p12)) (first | ((with_reducible show (World.setCell _ _ _).cell? _ = _ ∧ _); have hge : w.heap.size ≤ wr.heap.size := GR.out.size; have G3 := setsL_grew hge [.int .i64 hd.k, .string hd.s, .int .i64 hd.q1, .int .i64 hd.q2, .int .i64 hd.q3, .int .i64 hd.q4] 0 w2 G2; exact ⟨lcell G3 h1.out, lcell G3 h3.out, lcell G3 h4.out, lcell G3 h5.out, lcell G3 h6.out, lcell G3 h7.out, lcell G3 h8.out, lcell G3 h9.out, lcell G3 h10.out, lcell G3 h11.out, lcell G3 h12.out, lcell G3 h13.out, lcell G3 h14.out, lcell G3 h15.out⟩) | (with_reducible exact ⟨q1, q3, q4, q5, q6, q7, q8, q9, q10, q11, q12, q13, q14, q15⟩) | ((with_reducible show (World.drew _).cell? _ = _ ∧ _); first | (with_reducible exact ⟨lcell ((GR.out.then_none (grew_alloc _ _ _)).then_none (grew_drew1 _ none)) h1.out, lcell ((GR.out.then_none (grew_alloc _ _ _)).then_none (grew_drew1 _ none)) h3.out, lcell ((GR.out.then_none (grew_alloc _ _ _)).then_none (grew_drew1 _ none)) h4.out, lcell ((GR.out.then_none (grew_alloc _ _ _)).then_none (grew_drew1 _ none)) h5.out, lcell ((GR.out.then_none (grew_alloc _ _ _)).then_none (grew_drew1 _ none)) h6.out, lcell ((GR.out.then_none (grew_alloc _ _ _)).then_none (grew_drew1 _ none)) h7.out, lcell ((GR.out.then_none (grew_alloc _ _ _)).then_none (grew_drew1 _ none)) h8.out, lcell ((GR.out.then_none (grew_alloc _ _ _)).then_none (grew_drew1 _ none)) h9.out, lcell ((GR.out.then_none (grew_alloc _ _ _)).then_none (grew_drew1 _ none)) h10.out, lcell ((GR.out.then_none (grew_alloc _ _ _)).then_none (grew_drew1 _ none)) h11.out, lcell ((GR.out.then_none (grew_alloc _ _ _)).then_none (grew_drew1 _ none)) h12.out, lcell ((GR.out.then_none (grew_alloc _ _ _)).then_none (grew_drew1 _ none)) h13.out, lcell ((GR.out.then_none (grew_alloc _ _ _)).then_none (grew_drew1 _ none)) h14.out, lcell ((GR.out.then_none (grew_alloc _ _ _)).then_none (grew_drew1 _ none)) h15.out⟩) | exact ⟨q1, q3, q4, q5, q6, q7, q8, q9, q10, q11, q12, q13, q14, q15⟩) | (with_reducible exact ⟨lcell G2 h1.out, lcell G2 h3.out, lcell G2 h4.out, lcell G2 h5.out, lcell G2 h6.out, lcell G2 h7.out, lcell G2 h8.out, lcell G2 h9.out, lcell G2 h10.out, lcell G2 h11.out, lcell G2 h12.out, lcell G2 h13.out, lcell G2 h14.out, lcell G2 h15.out⟩) | ((with_reducible show (World.alloc _ _).cell? _ = _ ∧ _); first | (with_reducible exact ⟨lcell (G2.then_none (grew_alloc _ _ _)) h1.out, lcell (G2.then_none (grew_alloc _ _ _)) h3.out, lcell (G2.then_none (grew_alloc _ _ _)) h4.out, lcell (G2.then_none (grew_alloc _ _ _)) h5.out, lcell (G2.then_none (grew_alloc _ _ _)) h6.out, lcell (G2.then_none (grew_alloc _ _ _)) h7.out, lcell (G2.then_none (grew_alloc _ _ _)) h8.out, lcell (G2.then_none (grew_alloc _ _ _)) h9.out, lcell (G2.then_none (grew_alloc _ _ _)) h10.out, lcell (G2.then_none (grew_alloc _ _ _)) h11.out, lcell (G2.then_none (grew_alloc _ _ _)) h12.out, lcell (G2.then_none (grew_alloc _ _ _)) h13.out, lcell (G2.then_none (grew_alloc _ _ _)) h14.out, lcell (G2.then_none (grew_alloc _ _ _)) h15.out⟩) | exact ⟨lcell ((GR.out.then_none (grew_drew1 _ none)).then_none (grew_alloc _ _ _)) h1.out, lcell ((GR.out.then_none (grew_drew1 _ none)).then_none (grew_alloc _ _ _)) h3.out, lcell ((GR.out.then_none (grew_drew1 _ none)).then_none (grew_alloc _ _ _)) h4.out, lcell ((GR.out.then_none (grew_drew1 _ none)).then_none (grew_alloc _ _ _)) h5.out, lcell ((GR.out.then_none (grew_drew1 _ none)).then_none (grew_alloc _ _ _)) h6.out, lcell ((GR.out.then_none (grew_drew1 _ none)).then_none (grew_alloc _ _ _)) h7.out, lcell ((GR.out.then_none (grew_drew1 _ none)).then_none (grew_alloc _ _ _)) h8.out, lcell ((GR.out.then_none (grew_drew1 _ none)).then_none (grew_alloc _ _ _)) h9.out, lcell ((GR.out.then_none (grew_drew1 _ none)).then_none (grew_alloc _ _ _)) h10.out, lcell ((GR.out.then_none (grew_drew1 _ none)).then_none (grew_alloc _ _ _)) h11.out, lcell ((GR.out.then_none (grew_drew1 _ none)).then_none (grew_alloc _ _ _)) h12.out, lcell ((GR.out.then_none (grew_drew1 _ none)).then_none (grew_alloc _ _ _)) h13.out, lcell ((GR.out.then_none (grew_drew1 _ none)).then_none (grew_alloc _ _ _)) h14.out, lcell ((GR.out.then_none (grew_drew1 _ none)).then_none (grew_alloc _ _ _)) h15.out⟩)) (first | ((go_at_call 14; (first | (with_reducible refine (HRv.out _ Ba.out).mono ?_) | (with_reducible refine (HRv.out _ (blk_old Ba.out _)).mono ?_) | (with_reducible refine (HRv.out _ (blk_drawn Ba.out _)).mono ?_) | (refine (HRv.out _ (by first | exact Ba.out | exact blk_old Ba.out _)).mono ?_)); rintro e w2 ⟨rfl, hbox, hgr⟩); have G2 : Grew w w2 none := (by first | exact GR.out.nxtOwn hgr La.out rfl rfl rfl rfl | exact (GR.out.then_none (Grew.below (below_alloc (Below.refl _ _) (.cells #[.int .i64 0, .string ⟨#[]⟩, .int .i64 0, .int .i64 0, .int .i64 0, .int .i64 0] 40 (0, 0))))).nxtOwn hgr La.out rfl rfl rfl rfl); (try (have hx : Blk w2 wr.heap.size 40 #[.int .i64 0, .string ⟨#[]⟩, .int .i64 0, .int .i64 0, .int .i64 0, .int .i64 0] := hgr.blkFar (by exact blk_new wr _) (Nat.ne_of_gt Ba.out.lt); have cx0 := hx.cell 0 (v := .int .i64 0) rfl; have fx0 := hx.frozen 0; have cx1 := hx.cell 1 (v := .string ⟨#[]⟩) rfl; have fx1 := hx.frozen 1; have cx2 := hx.cell 2 (v := .int .i64 0) rfl; have fx2 := hx.frozen 2; have cx3 := hx.cell 3 (v := .int .i64 0) rfl; have fx3 := hx.frozen 3; have cx4 := hx.cell 4 (v := .int .i64 0) rfl; have fx4 := hx.frozen 4; have cx5 := hx.cell 5 (v := .int .i64 0) rfl; have fx5 := hx.frozen 5))))
        all_goals first
            | (have hm := Nat.ne_of_lt (Blk.lt (w := wr) Ba.out); have hge : w.heap.size ≤ wr.heap.size := GR.out.size; have hbh := setsL_full [.int .i64 hd.k, .string hd.s, .int .i64 hd.q1, .int .i64 hd.q2, .int .i64 hd.q3, .int .i64 hd.q4] w2 _ hx rfl; have hba := setsL_far hm [.int .i64 hd.k, .string hd.s, .int .i64 hd.q1, .int .i64 hd.q2, .int .i64 hd.q3, .int .i64 hd.q4] 0 w2 hbox; have hgg := setsL_grew hge [.int .i64 hd.k, .string hd.s, .int .i64 hd.q1, .int .i64 hd.q2, .int .i64 hd.q3, .int .i64 hd.q4] 0 w2 G2; simp only [setsL, Nat.reduceAdd] at hbh hba hgg; generalize ((((((w2.setCell ⟨wr.heap.size, 0, none⟩ (.int .i64 hd.k)).setCell ⟨wr.heap.size, 1, none⟩ (.string hd.s)).setCell ⟨wr.heap.size, 2, none⟩ (.int .i64 hd.q1)).setCell ⟨wr.heap.size, 3, none⟩ (.int .i64 hd.q2)).setCell ⟨wr.heap.size, 4, none⟩ (.int .i64 hd.q3)).setCell ⟨wr.heap.size, 5, none⟩ (.int .i64 hd.q4)) = wz at hbh hba hgg ⊢; generalize wr.heap.size = gh at hbh ⊢)
            | (have hbh : Blk (w2.alloc (.cells #[.int .i64 hd.k, .string hd.s, .int .i64 hd.q1, .int .i64 hd.q2, .int .i64 hd.q3, .int .i64 hd.q4] 40 (0, 0))) w2.heap.size 40 #[.int .i64 hd.k, .string hd.s, .int .i64 hd.q1, .int .i64 hd.q2, .int .i64 hd.q3, .int .i64 hd.q4] := blk_new w2 _; have hba := blk_old hbox (.cells #[.int .i64 hd.k, .string hd.s, .int .i64 hd.q1, .int .i64 hd.q2, .int .i64 hd.q3, .int .i64 hd.q4] 40 (0, 0)); have hgg : Grew w (w2.alloc (.cells #[.int .i64 hd.k, .string hd.s, .int .i64 hd.q1, .int .i64 hd.q2, .int .i64 hd.q3, .int .i64 hd.q4] 40 (0, 0))) none := G2.then_none (Grew.below (below_alloc (Below.refl _ _) _)); generalize w2.alloc (.cells #[.int .i64 hd.k, .string hd.s, .int .i64 hd.q1, .int .i64 hd.q2, .int .i64 hd.q3, .int .i64 hd.q4] 40 (0, 0)) = wz at hbh hba hgg ⊢; generalize w2.heap.size = gh at hbh ⊢)
        all_goals (clear q1 q3 q4 q5 q6 q7 q8 q9 q10 q11 q12 q13 q14 q15 hgr hbox G2)
        all_goals
            by_cases hk : 4 ≤ hd.k
            · have hh := out_hi s (rdo l x9).p (rdo l x9).now (HD0.out ▸ hk)
              have hv := recv_high s (rdo l x9).p (rdo l x9).now (by rw [recv_1, ← HD0.out]; omega)
              rw [← HD0.out] at hh
              have PD : Aside0 (x'.cP[3]? = some (.bool false)) := ⟨by show some (Value.bool x'.pd) = _; rw [HX0.out, hv.2.2.2.1]⟩
              have PX : Aside0 (x'.pd = false ∧ x'.n = s.n) := ⟨by rw [HX0.out]; exact ⟨hv.2.2.2.1, hv.2.1⟩⟩
              have d1 : decide (4 ≤ hd.k) = true := decide_eq_true hk
              have d2 : decide (7 < hd.k) = false := decide_eq_false (by omega)
              have d3 : ((rdo l x9).p.p10 != s.n) = false := bne_eq_false_iff_eq.mpr hh.2.1
              have d4 : ((rdo l x9).p.p2 != 4) = false := bne_eq_false_iff_eq.mpr hh.2.2.1
              have spd : s.pd = true := hh.1
              clear hk hh hv
              have y0 := hbh.cell 0 (v := .int .i64 hd.k) rfl; have y1 := hbh.cell 1 (v := .string hd.s) rfl; have y2 := hbh.cell 2 (v := .int .i64 hd.q1) rfl; have y3 := hbh.cell 3 (v := .int .i64 hd.q2) rfl; have y4 := hbh.cell 4 (v := .int .i64 hd.q3) rfl; have y5 := hbh.cell 5 (v := .int .i64 hd.q4) rfl
              have q5 := lcell hgg h5.out; have q13 := lcell hgg h13.out
              (go_wp2_with (first | (go_at_call 18; (first | (with_reducible refine (pendP_eq ga false _ x'.cP hba PD.out).mono ?_) | (with_reducible refine (pendP_eq ga false _ x'.cP (blk_drawn hba _) PD.out).mono ?_)); rintro e w_ ⟨rfl, rfl⟩) | (go_at_call 16; (with_reducible refine (countsP_ok ga x'.zs _ rfl (fun j hj => by rcases (by omega : j = 0 ∨ j = 1 ∨ j = 2 ∨ j = 3 ∨ j = 4 ∨ j = 5 ∨ j = 6 ∨ j = 7) with h_ | h_ | h_ | h_ | h_ | h_ | h_ | h_ <;> subst h_ <;> first | exact hba.cell _ rfl | exact (blk_drawn hba _).cell _ rfl)).mono ?_); rintro e w5 ⟨b2, c2, rfl, hC, hcell, hle, hg5⟩; have HC5 := Aside0.mk hC; have HL5 := Aside0.mk hle; clear hC hcell hle) | (go_at_call 20; (with_reducible refine (sum_calls x' (r + 1) b2 c2 _ HC5.out HL5.out CS2.out.1 (Int.le_trans CS2.out.2 (by omega))).mono ?_); rintro e w6 ⟨rfl, hg6⟩)))
              all_goals go_roundg k1
              all_goals first
                  | exact Nat.lt_succ_self _
                  | exact ⟨x', (r + 1), x9 + 1, by rw [PX.out.1], by rw [PX.out.2], rfl, by rw [iw_in (x9 + 1) (by have := HI.out; omega) (by omega)], ⟨by have := HI.out; omega⟩, ⟨NX.out.1, NX.out.2, CS2.out.1, by have := HS.out; omega, by have := HS.out; omega⟩, ⟨(Grew.drawn0 hg6).blk (hg5.blk hba)⟩, ⟨(hgg.nxt hg5 rfl rfl rfl rfl).nxt (Grew.drawn0 hg6) rfl rfl rfl rfl⟩⟩
            · have hh := out_lo s (rdo l x9).p (rdo l x9).now (HD0.out ▸ hk)
              have hv := recv_low s (rdo l x9).p (rdo l x9).now (by rw [recv_1, ← HD0.out]; omega)
              have hk0 := out_k s (rdo l x9).p (rdo l x9).now
              rw [← HD0.out] at hh hk0
              obtain ⟨k, hkk⟩ : ∃ k, k = hd.k := ⟨_, rfl⟩
              rw [← hkk] at hk hh hk0
              clear HD0 HRv
              obtain ⟨rfl, hh2⟩ := hh
              have PX : Aside0 (x'.pd = s.pd ∧ x'.n = s.n) := ⟨by rw [HX0.out]; exact ⟨hv.2.2.2.1, hv.2.1⟩⟩
              have hbh : Blk wz gh 40 #[.int .i64 k, .string ⟨#[]⟩, .int .i64 0, .int .i64 0, .int .i64 0, .int .i64 0] := hbh
              have d1 : decide (4 ≤ k) = false := decide_eq_false hk
              have d2 : decide (k < 0) = false := decide_eq_false (by omega)
              by_cases k1_ : k = 1
              · have spd : s.pd = false := hh2 k1_
                have d3 : (k == 1) = true := beq_t k1_
                have PD : Aside0 (x'.cP[3]? = some (.bool false)) := ⟨by show some (Value.bool x'.pd) = _; rw [PX.out.1, spd]⟩
                clear k1_ hk hh2 hv hk0 hkk
                have y0 := hbh.cell 0 (v := .int .i64 k) rfl; have y1 := hbh.cell 1 (v := .string ⟨#[]⟩) rfl; have y2 := hbh.cell 2 (v := .int .i64 0) rfl; have y3 := hbh.cell 3 (v := .int .i64 0) rfl; have y4 := hbh.cell 4 (v := .int .i64 0) rfl; have y5 := hbh.cell 5 (v := .int .i64 0) rfl
                (go_wp2_with (first | (go_at_call 18; (first | (with_reducible refine (pendP_eq ga false _ x'.cP hba PD.out).mono ?_) | (with_reducible refine (pendP_eq ga false _ x'.cP (blk_drawn hba _) PD.out).mono ?_)); rintro e w_ ⟨rfl, rfl⟩) | (go_at_call 16; (with_reducible refine (countsP_ok ga x'.zs _ rfl (fun j hj => by rcases (by omega : j = 0 ∨ j = 1 ∨ j = 2 ∨ j = 3 ∨ j = 4 ∨ j = 5 ∨ j = 6 ∨ j = 7) with h_ | h_ | h_ | h_ | h_ | h_ | h_ | h_ <;> subst h_ <;> first | exact hba.cell _ rfl | exact (blk_drawn hba _).cell _ rfl)).mono ?_); rintro e w5 ⟨b2, c2, rfl, hC, hcell, hle, hg5⟩; have HC5 := Aside0.mk hC; have HL5 := Aside0.mk hle; clear hC hcell hle) | (go_at_call 20; (with_reducible refine (sum_calls x' (r + 1) b2 c2 _ HC5.out HL5.out CS2.out.1 (Int.le_trans CS2.out.2 (by omega))).mono ?_); rintro e w6 ⟨rfl, hg6⟩)))
                all_goals go_roundg k1
                all_goals first
                    | exact Nat.lt_succ_self _
                    | exact ⟨x', (r + 1), x9 + 1, by rw [PX.out.1, spd], by rw [PX.out.2], rfl, by rw [iw_in (x9 + 1) (by have := HI.out; omega) (by omega)], ⟨by have := HI.out; omega⟩, ⟨NX.out.1, NX.out.2, CS2.out.1, by have := HS.out; omega, by have := HS.out; omega⟩, ⟨(Grew.drawn0 hg6).blk (hg5.blk hba)⟩, ⟨(hgg.nxt hg5 rfl rfl rfl rfl).nxt (Grew.drawn0 hg6) rfl rfl rfl rfl⟩⟩
              · have d3 : (k == 1) = false := beq_f k1_
                have PD : Aside0 (x'.cP[3]? = some (.bool s.pd)) := ⟨by show some (Value.bool x'.pd) = _; rw [PX.out.1]⟩
                clear k1_ hk hh2 hv hk0 hkk
                have y0 := hbh.cell 0 (v := .int .i64 k) rfl; have y1 := hbh.cell 1 (v := .string ⟨#[]⟩) rfl; have y2 := hbh.cell 2 (v := .int .i64 0) rfl; have y3 := hbh.cell 3 (v := .int .i64 0) rfl; have y4 := hbh.cell 4 (v := .int .i64 0) rfl; have y5 := hbh.cell 5 (v := .int .i64 0) rfl
                (go_wp2_with (first | (go_at_call 18; (first | (with_reducible refine (pendP_eq ga s.pd _ x'.cP hba PD.out).mono ?_) | (with_reducible refine (pendP_eq ga s.pd _ x'.cP (blk_drawn hba _) PD.out).mono ?_)); rintro e w_ ⟨rfl, rfl⟩) | (go_at_call 16; (with_reducible refine (countsP_ok ga x'.zs _ rfl (fun j hj => by rcases (by omega : j = 0 ∨ j = 1 ∨ j = 2 ∨ j = 3 ∨ j = 4 ∨ j = 5 ∨ j = 6 ∨ j = 7) with h_ | h_ | h_ | h_ | h_ | h_ | h_ | h_ <;> subst h_ <;> first | exact hba.cell _ rfl | exact (blk_drawn hba _).cell _ rfl)).mono ?_); rintro e w5 ⟨b2, c2, rfl, hC, hcell, hle, hg5⟩; have HC5 := Aside0.mk hC; have HL5 := Aside0.mk hle; clear hC hcell hle) | (go_at_call 20; (with_reducible refine (sum_calls x' (r + 1) b2 c2 _ HC5.out HL5.out CS2.out.1 (Int.le_trans CS2.out.2 (by omega))).mono ?_); rintro e w6 ⟨rfl, hg6⟩)))
                all_goals go_roundg k1
                all_goals first
                    | exact Nat.lt_succ_self _
                    | exact ⟨x', (r + 1), x9 + 1, by rw [PX.out.1], by rw [PX.out.2], rfl, by rw [iw_in (x9 + 1) (by have := HI.out; omega) (by omega)], ⟨by have := HI.out; omega⟩, ⟨NX.out.1, NX.out.2, CS2.out.1, by have := HS.out; omega, by have := HS.out; omega⟩, ⟨(Grew.drawn0 hg6).blk (hg5.blk hba)⟩, ⟨(hgg.nxt hg5 rfl rfl rfl rfl).nxt (Grew.drawn0 hg6) rfl rfl rfl rfl⟩⟩
    · have c1 : decide (x9 < (l.length : Int)) = false := decide_eq_false hlt
      clear hlt
      go_wp2_with (go_at_call 11; (with_reducible refine (awake_ok _).mono ?_); rintro e w3 ⟨rfl, hg3⟩)
      go_ret
      exact ⟨rfl, GR.out.nxt hg3 rfl rfl rfl rfl⟩
end Go.Proofs.Ytohjmfjdopffkaa.As
