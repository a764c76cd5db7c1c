/- AssocReplays: for every input the walk goes one of the ways that end in true. -/
import Derived.Test.YtohjmfjdopffkaaReplays
import Derived.Test.YtohjmfjdopffkaaAsLaw
namespace Go.Proofs.Ytohjmfjdopffkaa.As
open Go Go.RowKit Go.Proofs.Ytohjmfjdopffkaa.PAs Go.Proofs.Ytohjmfjdopffkaa.AsP Go.Proofs.Ytohjmfjdopffkaa.StAs Go.Proofs.Ytohjmfjdopffkaa.Ob Go.Proofs.YtohjmfjdopffkaaW.PrintWords
set_option linter.unusedVariables false
set_option linter.unusedSimpArgs false
theorem replays_law (w : World) (second : Int) (h1 : (Lit.int .u64 second).wf = true) (p : Np) (hp : p.wf) (now : Int) (h2 : (Lit.int .i64 now).wf = true) : Calls Try.prog 6 #[.int .u64 second, .agg p.l.toArray, .int .i64 now] w fun e w' => e = .returned (.bool true) ∧ Grew w w' none := by
  have ok : p.ok := Np.wf_ok hp
  have hin := lin_f now
  by_cases a0 : second = 0
  · exact replays_g0 w second now p.p0 p.p1 p.p2 p.p3 p.p4 p.p5 p.p6 p.p7 p.p8 p.p9 p.p10 p.p11 p.p12 a0
  by_cases a1 : second = 1
  · exact replays_g1 w second now p.p0 p.p1 p.p2 p.p3 p.p4 p.p5 p.p6 p.p7 p.p8 p.p9 p.p10 p.p11 p.p12 a0 a1
  by_cases a2 : inb now = false
  · rw [a2] at hin; exact replays_g2 w second now p.p0 p.p1 p.p2 p.p3 p.p4 p.p5 p.p6 p.p7 p.p8 p.p9 p.p10 p.p11 p.p12 a0 a1 hin
  have hI : inb now = true := by simpa using a2
  rw [hI] at hin
  have hs1 := send_lit s0 now 1 hI (by decide) (by decide) rfl
  have e1 := send_ok s0 now 1 hI (by decide) (by decide)
  obtain ⟨x1, hx1⟩ : ∃ x, x = (send s0 now 1).2 := ⟨_, rfl⟩
  rw [← hx1] at hs1
  have v1 : x1.ver = 4 ∧ x1.n = 1 ∧ x1.t = now ∧ x1.pd = true ∧ x1.xm = 0 := by rw [hx1, e1]; exact ⟨rfl, rfl, rfl, rfl, rfl⟩
  clear hx1 e1
  have i1 : x1.inv := fun e => by rw [v1.2.1] at e; cases e
  obtain ⟨p1, hp1⟩ : ∃ q : Np, q = { p with p10 := 1 } := ⟨_, rfl⟩
  have ok1 : p1.ok := by rw [hp1]; exact ⟨ok.ref, ok.rcv, ok.xmt⟩
  have q1 : p1.p10 = 1 ∧ p1.p12 = p.p12 := by rw [hp1]; exact ⟨rfl, rfl⟩
  have hv1 : p1.v = (({ p with p10 := 1 } : Np)).v := by rw [hp1]
  have hr1 := recv_lit x1 p1 now _ rfl i1 ok1
  by_cases hg : good p1
  · have o1 : (recv x1 p1 now).1 = acc now p1 now := by
      rw [recv_1, out_good x1 p1 now hg hI (fun e => by have := e.2; rw [v1.2.2.1] at this; omega), if_neg (by rw [v1.2.2.2.1]; simp), if_neg (by rw [q1.1, v1.2.1]; simp), if_neg (by rw [v1.2.2.2.2]; exact fun e => e.1 e.2), v1.2.2.1]
    have k1 := acc_hi now p1 now
    rw [← o1] at k1
    have v2 := recv_high x1 p1 now k1.1
    obtain ⟨x2, hx2⟩ : ∃ x, x = (recv x1 p1 now).2 := ⟨_, rfl⟩
    rw [← hx2] at hr1 v2
    have i2 : x2.inv := fun e => by rw [v2.2.1, v1.2.1] at e; cases e
    have o2 : (recv x2 p1 now).1 = bare 1 := by
      rw [recv_1, out_good x2 p1 now hg hI (fun e => by have := e.2; rw [v2.2.2.1, v1.2.2.1] at this; omega), if_pos v2.2.2.2.1]
    have hr2 := recv_lit x2 p1 now _ o2 i2 ok1
    have v3 := recv_low x2 p1 now (by rw [o2]; decide)
    obtain ⟨x3, hx3⟩ : ∃ x, x = (recv x2 p1 now).2 := ⟨_, rfl⟩
    rw [← hx3] at hr2 v3
    have n3 : x3.n = 1 := by rw [v3.2.1, v2.2.1, v1.2.1]
    have hs2 := send_lit x3 now second hI a0 (by rw [n3]; exact a1) (by rw [v3.1, v2.1, v1.1])
    have e4 := send_ok x3 now second hI a0 (by rw [n3]; exact a1)
    obtain ⟨x4, hx4⟩ : ∃ x, x = (send x3 now second).2 := ⟨_, rfl⟩
    rw [← hx4] at hs2
    have v4 : x4.n = second ∧ x4.t = now ∧ x4.pd = true ∧ x4.xm = p.p12 := by rw [hx4, e4]; exact ⟨rfl, rfl, rfl, by show x3.xm = _; rw [v3.2.2.2.2, v2.2.2.2.2, q1.2]⟩
    have i4 : x4.inv := fun e => absurd (v4.1 ▸ e) a0
    have o3 : (recv x4 p1 now).1 = bare 2 := by
      rw [recv_1, out_good x4 p1 now hg hI (fun e => by have := e.2; rw [v4.2.1] at this; omega), if_neg (by rw [v4.2.2.1]; simp), if_pos (by rw [q1.1, v4.1]; exact fun e => a1 e.symm)]
    have hr3 := recv_lit x4 p1 now _ o3 i4 ok1
    have v5 := recv_low x4 p1 now (by rw [o3]; decide)
    obtain ⟨x5, hx5⟩ : ∃ x, x = (recv x4 p1 now).2 := ⟨_, rfl⟩
    rw [← hx5] at hr3 v5
    have i5 : x5.inv := fun e => by rw [v5.2.1, v4.1] at e; exact absurd e a0
    obtain ⟨p2, hp2⟩ : ∃ q : Np, q = { p with p10 := second } := ⟨_, rfl⟩
    have ok2 : p2.ok := by rw [hp2]; exact ⟨ok.ref, ok.rcv, ok.xmt⟩
    have hg2 : good p2 := by rw [hp1] at hg; rw [hp2]; exact hg
    have o4 : (recv x5 p2 now).1 = if p.p12 ≠ 0 then bare 3 else acc now p2 now := by
      rw [recv_1, out_good x5 p2 now hg2 hI (fun e => by have := e.2; rw [v5.2.2.1, v4.2.1] at this; omega), if_neg (by rw [v5.2.2.2.1, v4.2.2.1]; simp), if_neg (by rw [v5.2.1, v4.1, hp2]; simp), v5.2.2.2.2, v4.2.2.2, v5.2.2.1, v4.2.1]
      by_cases z : p.p12 = 0
      · rw [if_neg (by rw [hp2]; exact fun e => e.1 z), if_neg (by simp [z])]
      · rw [if_pos (by rw [hp2]; exact ⟨z, rfl⟩), if_pos z]
    by_cases z : p.p12 = 0
    · rw [if_neg (by simp [z])] at o4
      have k4 := acc_hi now p2 now
      rw [← o4] at k4
      have v6 := recv_high x5 p2 now k4.1
      have hr4 := recv_lit x5 p2 now _ rfl i5 ok2
      subst hp1 hp2
      exact replays_zero w second now p.p0 p.p1 p.p2 p.p3 p.p4 p.p5 p.p6 p.p7 p.p8 p.p9 p.p10 p.p11 p.p12 x1 x2 x3 x4 x5 _ _ _ _ _ _ _ _ _ _ _ _ _ a0 a1 hin hs1 hr1 k1.2.2 hr2 hs2 hr3 hr4 (by show some (Value.bool _) = _; rw [v6.2.2.2.1]) z k4.2.1
    · rw [if_pos z] at o4
      have v6 := recv_low x5 p2 now (by rw [o4]; decide)
      have hr4 := recv_lit x5 p2 now _ o4 i5 ok2
      subst hp1 hp2
      exact replays_dup w second now p.p0 p.p1 p.p2 p.p3 p.p4 p.p5 p.p6 p.p7 p.p8 p.p9 p.p10 p.p11 p.p12 x1 x2 x3 x4 x5 _ _ _ _ _ _ _ a0 a1 hin hs1 hr1 k1.2.2 hr2 hs2 hr3 hr4 (by show some (Value.bool _) = _; rw [v6.2.2.2.1, v5.2.2.2.1, v4.2.2.1]) z
  · have o1 : (recv x1 p1 now).1 = bare 0 := by rw [recv_1, out_bad x1 p1 now hg]
    have v2 := recv_low x1 p1 now (by rw [o1]; decide)
    have hr1 := recv_lit x1 p1 now _ o1 i1 ok1
    subst hp1
    exact replays_bad w second now p.p0 p.p1 p.p2 p.p3 p.p4 p.p5 p.p6 p.p7 p.p8 p.p9 p.p10 p.p11 p.p12 x1 _ a0 a1 hin hs1 hr1 (by show some (Value.bool _) = _; rw [v2.2.2.2.1, v1.2.2.2.1])
end Go.Proofs.Ytohjmfjdopffkaa.As
