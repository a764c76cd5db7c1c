/- AssocInstants: for every input the walk goes one of the ways that end in true. -/
import Derived.Test.YtohjmfjdopffkaaInstants
import Derived.Test.YtohjmfjdopffkaaAsLaw
namespace Go.Proofs.Ytohjmfjdopffkaa.As
open Go Go.RowKit Go.Proofs.Ytohjmfjdopffkaa.PAs Go.Proofs.Ytohjmfjdopffkaa.AsP Go.Proofs.Ytohjmfjdopffkaa.StAs Go.Proofs.Ytohjmfjdopffkaa.Ob Go.Proofs.YtohjmfjdopffkaaW.PrintWords
set_option linter.unusedVariables false
set_option linter.unusedSimpArgs false
theorem instants_law (w : World) (p : Np) (hp : p.wf) (sent : Int) (h1 : (Lit.int .i64 sent).wf = true) (now : Int) (h2 : (Lit.int .i64 now).wf = true) : Calls Try.prog 7 #[.agg p.l.toArray, .int .i64 sent, .int .i64 now] w fun e w' => e = .returned (.bool true) ∧ Grew w w' none := by
  have ok : p.ok := Np.wf_ok hp
  have hi1 := lin_f sent
  have hi2 := lin_f now
  by_cases a1 : inb sent = false
  · rw [a1] at hi1; exact instants_g0 w sent now p.p0 p.p1 p.p2 p.p3 p.p4 p.p5 p.p6 p.p7 p.p8 p.p9 p.p10 p.p11 p.p12 hi1
  have hS : inb sent = true := by simpa using a1
  rw [hS] at hi1
  by_cases a2 : inb now = false
  · rw [a2] at hi2; exact instants_g1 w sent now p.p0 p.p1 p.p2 p.p3 p.p4 p.p5 p.p6 p.p7 p.p8 p.p9 p.p10 p.p11 p.p12 hi1 hi2
  have hI : inb now = true := by simpa using a2
  rw [hI] at hi2
  have hs1 := send_lit s0 sent 1 hS (by decide) (by decide) rfl
  have e1 := send_ok s0 sent 1 hS (by decide) (by decide)
  obtain ⟨x1, hx1⟩ : ∃ x, x = (send s0 sent 1).2 := ⟨_, rfl⟩
  rw [← hx1] at hs1
  have v1 : x1.ver = 4 ∧ x1.n = 1 ∧ x1.t = sent ∧ x1.pd = true ∧ x1.xm = 0 := by rw [hx1, e1]; exact ⟨rfl, rfl, rfl, rfl, rfl⟩
  clear hx1 e1
  have i1 : x1.inv := fun e => by rw [v1.2.1] at e; cases e
  obtain ⟨p1, hp1⟩ : ∃ q : Np, q = { p with p10 := 1 } := ⟨_, rfl⟩
  have ok1 : p1.ok := by rw [hp1]; exact ⟨ok.ref, ok.rcv, ok.xmt⟩
  have q1 : p1.p11 = p.p11 ∧ p1.p12 = p.p12 := by rw [hp1]; exact ⟨rfl, rfl⟩
  by_cases hk : (recv x1 p1 now).1.k = 7
  · obtain ⟨hg, _, hl, _, _, ho⟩ := out_7 x1 p1 now hk
    have ha : (acc x1.t p1 now).k = 7 := by rw [← ho]; exact hk
    obtain ⟨he, f2, f3, hq⟩ := acc_7 _ _ _ ha
    rw [v1.2.2.1] at he
    have hl' : ¬ now < sent := fun e => hl ⟨by rw [v1.2.1]; decide, by rw [v1.2.2.1]; exact e⟩
    have hr1 := recv_lit x1 p1 now _ (by rw [recv_1, ho, v1.2.2.1, he]) i1 ok1
    rw [q1.1] at f2
    rw [q1.2] at f3
    rw [q1.1, q1.2] at hr1 hq
    obtain ⟨j2, l2, u2⟩ := fnd_near p.p11 now ok.rcv.1 ok.rcv.2 hI f2
    obtain ⟨j3, l3, u3⟩ := fnd_near p.p12 now ok.xmt.1 ok.xmt.2 hI f3
    generalize (fnd p.p11 now).1 = q2 at *
    generalize (fnd p.p12 now).1 = q3 at *
    have b2 := (inb_iff q2).1 j2
    have b3 := (inb_iff q3).1 j3
    have hj2 := lin_f q2
    have hj3 := lin_f q3
    rw [j2] at hj2
    rw [j3] at hj3
    subst hp1
    exact instants_ok w sent now p.p0 p.p1 p.p2 p.p3 p.p4 p.p5 p.p6 p.p7 p.p8 p.p9 p.p10 p.p11 p.p12 x1 _ _ q2 q3 _ _ _ _ hi1 hi2 hs1 hr1 hl' hq hj2 hj3 (of_f 40 _ (by omega) (by omega) (by omega)) (of_f 40 _ (by omega) (by omega) (by omega)) (diff_f _ _) (diff_f _ _) (IntWalk.i64_in _ (by omega)) (IntWalk.i64_in _ (by omega)) l2 u2 l3 u3
  · have hq := out_q x1 p1 now hk
    have hr1 := recv_lit x1 p1 now (⟨(out x1 p1 now).k, (out x1 p1 now).s, 0, 0, 0, 0⟩ : Hd) (by rw [recv_1]; cases h : out x1 p1 now; simp only [h] at hq; simp [hq]) i1 ok1
    subst hp1
    exact instants_not w sent now p.p0 p.p1 p.p2 p.p3 p.p4 p.p5 p.p6 p.p7 p.p8 p.p9 p.p10 p.p11 p.p12 x1 _ _ _ hi1 hi2 hs1 hr1 hk
end Go.Proofs.Ytohjmfjdopffkaa.As
