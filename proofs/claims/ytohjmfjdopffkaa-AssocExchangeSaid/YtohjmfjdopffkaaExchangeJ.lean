/- AssocExchange: for every input the walk goes one of the ways that end in true. -/
import Derived.Test.YtohjmfjdopffkaaExchange
import Derived.Test.YtohjmfjdopffkaaAsLaw
namespace Go.Proofs.Ytohjmfjdopffkaa.As
open Go Go.RowKit Go.Proofs.Ytohjmfjdopffkaa.PAs Go.Proofs.Ytohjmfjdopffkaa.AsP Go.Proofs.Ytohjmfjdopffkaa.StAs Go.Proofs.Ytohjmfjdopffkaa.Ob Go.Proofs.YtohjmfjdopffkaaW.PrintWords
set_option linter.unusedVariables false
set_option linter.unusedSimpArgs false
theorem fnd_back (q now : Int) (hq : inb q = true) (hi : inb now = true) : fnd (un (3900000000000000000 + q) % 18446744073709551616) now = (q, true) := by
  have a := (inb_iff q).1 hq
  have b := (inb_iff now).1 hi
  unfold fnd
  rw [tm_back (3900000000000000000 + q) (3900000000000000000 + now) (by omega) (by omega) (by omega) (by omega) (by omega) (by omega)]
  have e : (3900000000000000000 + q) - 3900000000000000000 = q := by omega
  simp only [e, hq]
  rfl
theorem exchange_law (w : World) (nonce : Int) (h1 : (Lit.int .u64 nonce).wf = true) (q1 q2 q3 q4 : Int) (hq1 : (Lit.int .i64 q1).wf = true) (hq2 : (Lit.int .i64 q2).wf = true) (hq3 : (Lit.int .i64 q3).wf = true) (hq4 : (Lit.int .i64 q4).wf = true) (stratum : Int) (h2 : (Lit.int .i64 stratum).wf = true) : Calls Try.prog 5 #[.int .u64 nonce, .agg [.int .i64 q1, .int .i64 q2, .int .i64 q3, .int .i64 q4].toArray, .int .i64 stratum] w fun e w' => e = .returned (.bool true) ∧ Grew w w' none := by
  by_cases a0 : nonce = 0
  · exact exchange_g0 w nonce q1 q2 q3 q4 stratum a0
  have hj1 := lin_f q1
  by_cases b1 : inb q1 = false
  · rw [b1] at hj1; exact exchange_g1 w nonce q1 q2 q3 q4 stratum a0 hj1
  have i1 : inb q1 = true := by simpa using b1
  rw [i1] at hj1
  have hj2 := lin_f q2
  by_cases b2 : inb q2 = false
  · rw [b2] at hj2; exact exchange_g2 w nonce q1 q2 q3 q4 stratum a0 hj1 hj2
  have i2 : inb q2 = true := by simpa using b2
  rw [i2] at hj2
  have hj3 := lin_f q3
  by_cases b3 : inb q3 = false
  · rw [b3] at hj3; exact exchange_g3 w nonce q1 q2 q3 q4 stratum a0 hj1 hj2 hj3
  have i3 : inb q3 = true := by simpa using b3
  rw [i3] at hj3
  have hj4 := lin_f q4
  by_cases b4 : inb q4 = false
  · rw [b4] at hj4; exact exchange_g4 w nonce q1 q2 q3 q4 stratum a0 hj1 hj2 hj3 hj4
  have i4 : inb q4 = true := by simpa using b4
  rw [i4] at hj4
  by_cases a5 : q4 < q1
  · exact exchange_g5 w nonce q1 q2 q3 q4 stratum a0 hj1 hj2 hj3 hj4 a5
  by_cases a6 : q3 < q2
  · exact exchange_g6 w nonce q1 q2 q3 q4 stratum a0 hj1 hj2 hj3 hj4 a5 a6
  by_cases a7 : stratum < 1
  · exact exchange_g7 w nonce q1 q2 q3 q4 stratum a0 hj1 hj2 hj3 hj4 a5 a6 a7
  by_cases a8 : 15 < stratum
  · exact exchange_g8 w nonce q1 q2 q3 q4 stratum a0 hj1 hj2 hj3 hj4 a5 a6 a7 a8
  have hs1 := send_lit s0 q1 nonce i1 a0 (by exact a0) rfl
  have e1 := send_ok s0 q1 nonce i1 a0 (by exact a0)
  obtain ⟨x1, hx1⟩ : ∃ x, x = (send s0 q1 nonce).2 := ⟨_, rfl⟩
  rw [← hx1] at hs1
  have v1 : x1.ver = 4 ∧ x1.n = nonce ∧ x1.t = q1 ∧ x1.pd = true ∧ x1.xm = 0 := by rw [hx1, e1]; exact ⟨rfl, rfl, rfl, rfl, rfl⟩
  clear hx1 e1
  have iv1 : x1.inv := fun e => absurd (v1.2.1 ▸ e) a0
  have c2 := (inb_iff q2).1 i2
  have c3 := (inb_iff q3).1 i3
  obtain ⟨u2, hu2⟩ : ∃ u, u = un (3900000000000000000 + q2) % 18446744073709551616 := ⟨_, rfl⟩
  obtain ⟨u3, hu3⟩ : ∃ u, u = un (3900000000000000000 + q3) % 18446744073709551616 := ⟨_, rfl⟩
  have f2 : fnd u2 q4 = (q2, true) := by rw [hu2]; exact fnd_back q2 q4 i2 i4
  have f3 : fnd u3 q4 = (q3, true) := by rw [hu3]; exact fnd_back q3 q4 i3 i4
  have ok1 : (⟨0, 4, 4, stratum, 0, 0, 0, 0, 0, 0, nonce, u2, u3⟩ : Np).ok := ⟨⟨by simp, by simp⟩, ⟨by show 0 ≤ u2; omega, by show u2 ≤ _; omega⟩, ⟨by show 0 ≤ u3; omega, by show u3 ≤ _; omega⟩⟩
  have hg : good (⟨0, 4, 4, stratum, 0, 0, 0, 0, 0, 0, nonce, u2, u3⟩ : Np) := ⟨by show chk 0 4 4 stratum 0 0 = 0; unfold chk; rw [if_pos (by omega)], rfl⟩
  have o1 : (recv x1 (⟨0, 4, 4, stratum, 0, 0, 0, 0, 0, 0, nonce, u2, u3⟩ : Np) q4).1 = ⟨7, ⟨#[]⟩, q1, q2, q3, q4⟩ := by
    rw [recv_1, out_good x1 _ q4 hg i4 (fun e => by have := e.2; rw [v1.2.2.1] at this; omega), if_neg (by rw [v1.2.2.2.1]; simp), if_neg (by rw [v1.2.1]; simp), if_neg (by rw [v1.2.2.2.2]; exact fun e => e.1 e.2), v1.2.2.1]
    unfold acc
    have k : kis stratum 0 = (⟨#[]⟩, false) := by unfold kis; rw [if_neg (fun e => by have := e.1; omega)]
    have y : syn 0 stratum = true := by unfold syn; exact decide_eq_true (by omega)
    simp only [k, y, f2, f3]
    rw [if_neg (by simp), if_neg (by simp), if_neg (by simp), if_neg (by simp), if_neg a6]
  have hr1 := recv_lit x1 _ q4 _ o1 iv1 ok1
  have v2 := recv_high x1 (⟨0, 4, 4, stratum, 0, 0, 0, 0, 0, 0, nonce, u2, u3⟩ : Np) q4 (by rw [o1]; show (3 : Int) < 7; omega)
  exact exchange_ok w nonce q1 q2 q3 q4 stratum x1 _ u2 u3 a0 hj1 hj2 hj3 hj4 a5 a6 a7 a8 hs1 hr1 (by rw [hu2]; exact of_f 40 _ (by omega) (by omega) (by omega)) (by rw [hu3]; exact of_f 40 _ (by omega) (by omega) (by omega)) (IntWalk.i64_in _ (by omega)) (IntWalk.i64_in _ (by omega)) (by show some (Value.bool _) = _; rw [v2.2.2.2.1])
end Go.Proofs.Ytohjmfjdopffkaa.As
