/- The contracts of the reference's association, by the state that it shares with the program's. -/
import Derived.Test.YtohjmfjdopffkaaAsObj
import Derived.Test.YtohjmfjdopffkaaSendR
import Derived.Test.YtohjmfjdopffkaaHeardR
import Derived.Test.YtohjmfjdopffkaaRecvR
namespace Go.Proofs.Ytohjmfjdopffkaa.As
open Go Go.RowKit Go.Proofs.Ytohjmfjdopffkaa.PAs Go.Proofs.Ytohjmfjdopffkaa.Ob Go.Proofs.Ytohjmfjdopffkaa.AsP Go.Proofs.YtohjmfjdopffkaaW.PrintWords Go.Proofs.YtohjmfjdopffkaaW.PrintLast Go.Proofs.YtohjmfjdopffkaaW.PrintMore
set_option linter.unusedVariables false
set_option linter.unusedSimpArgs false


theorem sendR_calls (g : Nat) (w : World) (s : S) (now nonce : Int) (hb : Blk w g 59 s.cR) : Calls Try.prog 13 #[.pointer (some ⟨g, 0, none⟩), .int .i64 now, .int .u64 nonce] w fun e w' =>
    e = .returned (sent s now nonce) ∧ Blk w' g 59 (send s now nonce).2.cR ∧ Grew w w' (some g) := by
  unfold sent send
  by_cases h1 : inb now = false
  · have hin : timesyncref31_in.f now = some false := by rw [← h1]; exact rin_f now
    rw [if_pos h1]
    exact (sendR_rng g w now nonce s.ver (s.n != 0) s.pd s.t s.n s.xm s.c0 s.c1 s.c2 s.c3 s.c4 s.c5 s.c6 s.c7 hb hin).mono fun e w' h => ⟨h.1, h.2.1, grew_some h.2.2⟩
  · have hin : timesyncref31_in.f now = some true := by rw [← (by simpa using h1 : inb now = true)]; exact rin_f now
    rw [if_neg h1]
    by_cases h2 : nonce = 0
    · rw [if_pos h2]
      exact (sendR_zero g w now nonce s.ver (s.n != 0) s.pd s.t s.n s.xm s.c0 s.c1 s.c2 s.c3 s.c4 s.c5 s.c6 s.c7 hb hin (beq_t h2)).mono fun e w' h => ⟨h.1, h.2.1, grew_some h.2.2⟩
    · rw [if_neg h2]
      by_cases h3 : nonce = s.n
      · rw [if_pos h3]
        have h4 : s.n ≠ 0 := fun e => h2 (h3.trans e)
        have e : s.cR = #[.int .i64 s.ver, .bool true, .bool s.pd, .int .i64 s.t, .int .u64 s.n, .int .u64 s.xm, .int .i64 s.c0, .int .i64 s.c1, .int .i64 s.c2, .int .i64 s.c3, .int .i64 s.c4, .int .i64 s.c5, .int .i64 s.c6, .int .i64 s.c7] := by unfold S.cR; rw [bne_iff_ne.mpr h4]
        rw [e] at hb ⊢
        exact (sendR_twice g w now nonce s.ver true s.pd s.t s.n s.xm s.c0 s.c1 s.c2 s.c3 s.c4 s.c5 s.c6 s.c7 hb hin (beq_f h2) (beq_t h3)).mono fun e w' h => ⟨h.1, h.2.1, grew_some h.2.2⟩
      · rw [if_neg h3]
        have e5 : ({ s with n := nonce, t := now, pd := true } : S).cR = #[.int .i64 s.ver, .bool true, .bool true, .int .i64 now, .int .u64 nonce, .int .u64 s.xm, .int .i64 s.c0, .int .i64 s.c1, .int .i64 s.c2, .int .i64 s.c3, .int .i64 s.c4, .int .i64 s.c5, .int .i64 s.c6, .int .i64 s.c7] := by unfold S.cR; simp only []; rw [bne_iff_ne.mpr h2]
        simp only [e5]
        by_cases h4 : s.n = 0
        · have e : s.cR = #[.int .i64 s.ver, .bool false, .bool s.pd, .int .i64 s.t, .int .u64 s.n, .int .u64 s.xm, .int .i64 s.c0, .int .i64 s.c1, .int .i64 s.c2, .int .i64 s.c3, .int .i64 s.c4, .int .i64 s.c5, .int .i64 s.c6, .int .i64 s.c7] := by unfold S.cR; rw [bne_eq_false_iff_eq.mpr h4]
          rw [e] at hb
          exact sendR_ok0 g w now nonce s.ver false s.pd s.t s.n s.xm s.c0 s.c1 s.c2 s.c3 s.c4 s.c5 s.c6 s.c7 hb hin (beq_f h2)
        · have e : s.cR = #[.int .i64 s.ver, .bool true, .bool s.pd, .int .i64 s.t, .int .u64 s.n, .int .u64 s.xm, .int .i64 s.c0, .int .i64 s.c1, .int .i64 s.c2, .int .i64 s.c3, .int .i64 s.c4, .int .i64 s.c5, .int .i64 s.c6, .int .i64 s.c7] := by unfold S.cR; rw [bne_iff_ne.mpr h4]
          rw [e] at hb
          exact sendR_ok1 g w now nonce s.ver true s.pd s.t s.n s.xm s.c0 s.c1 s.c2 s.c3 s.c4 s.c5 s.c6 s.c7 hb hin (beq_f h2) (beq_f h3)

theorem heardR_acc (g : Nat) (s : S) (p : Np) (now : Int) (ho : p.ok) (hI : inb now = true) (W : World) (hb : Blk W g 59 s.cR) : Calls Try.prog 29 #[.pointer (some ⟨g, 0, none⟩), .agg p.v, .int .i64 now] W fun e w' => e = .returned (.agg (acc s.t p now).v) ∧ Grew W w' none := by
  have hks : timesyncref19_Kiss.f 40 p.p0 p.p1 p.p2 p.p3 p.p4 p.p5 p.p6 p.p7 p.p8 p.p9 p.p10 p.p11 p.p12 = some ((kis p.p3 p.p8).1, (kis p.p3 p.p8).2) := rkiss_f 40 p.p0 p.p1 p.p2 p.p3 p.p4 p.p5 p.p6 p.p7 p.p8 p.p9 p.p10 p.p11 p.p12 ho.ref.1 ho.ref.2 (by omega)
  have hsy : timesyncref19_Synced.f p.p0 p.p1 p.p2 p.p3 p.p4 p.p5 p.p6 p.p7 p.p8 p.p9 p.p10 p.p11 p.p12 = some (syn p.p0 p.p3) := rsynced_f p.p0 p.p1 p.p2 p.p3 p.p4 p.p5 p.p6 p.p7 p.p8 p.p9 p.p10 p.p11 p.p12
  have hf2 := instant_f 40 p.p11 now ho.rcv.1 ho.rcv.2 hI (by omega)
  have hf3 := instant_f 40 p.p12 now ho.xmt.1 ho.xmt.2 hI (by omega)
  unfold acc
  by_cases k1 : (kis p.p3 p.p8).2 = true
  · rw [if_pos k1]; rw [k1] at hks; exact heardR_kiss 40 g W now s.ver (s.n != 0) s.pd s.t s.n s.xm s.c0 s.c1 s.c2 s.c3 s.c4 s.c5 s.c6 s.c7 p.p0 p.p1 p.p2 p.p3 p.p4 p.p5 p.p6 p.p7 p.p8 p.p9 p.p10 p.p11 p.p12 hb _ hks
  rw [if_neg k1]
  have k1' : (kis p.p3 p.p8).2 = false := by simpa using k1
  rw [k1'] at hks
  by_cases k2 : syn p.p0 p.p3 = false
  · rw [if_pos k2]; rw [k2] at hsy; exact heardR_unsync 40 g W now s.ver (s.n != 0) s.pd s.t s.n s.xm s.c0 s.c1 s.c2 s.c3 s.c4 s.c5 s.c6 s.c7 p.p0 p.p1 p.p2 p.p3 p.p4 p.p5 p.p6 p.p7 p.p8 p.p9 p.p10 p.p11 p.p12 hb _ hks hsy
  rw [if_neg k2]
  rw [(by simpa using k2 : syn p.p0 p.p3 = true)] at hsy
  by_cases k3 : (fnd p.p11 now).2 = false
  · rw [if_pos k3]; rw [k3] at hf2; exact heardR_time1 40 g W now s.ver (s.n != 0) s.pd s.t s.n s.xm s.c0 s.c1 s.c2 s.c3 s.c4 s.c5 s.c6 s.c7 p.p0 p.p1 p.p2 p.p3 p.p4 p.p5 p.p6 p.p7 p.p8 p.p9 p.p10 p.p11 p.p12 hb _ hks hsy _ _ _ hf2 hf3
  rw [if_neg k3]
  rw [(by simpa using k3 : (fnd p.p11 now).2 = true)] at hf2
  by_cases k4 : (fnd p.p12 now).2 = false
  · rw [if_pos k4]; rw [k4] at hf3; exact heardR_time2 40 g W now s.ver (s.n != 0) s.pd s.t s.n s.xm s.c0 s.c1 s.c2 s.c3 s.c4 s.c5 s.c6 s.c7 p.p0 p.p1 p.p2 p.p3 p.p4 p.p5 p.p6 p.p7 p.p8 p.p9 p.p10 p.p11 p.p12 hb _ hks hsy _ _ hf2 hf3
  rw [if_neg k4]
  rw [(by simpa using k4 : (fnd p.p12 now).2 = true)] at hf3
  rw [if_pos rfl] at hf2 hf3
  by_cases k5 : (fnd p.p12 now).1 < (fnd p.p11 now).1
  · rw [if_pos k5]; exact heardR_time3 40 g W now s.ver (s.n != 0) s.pd s.t s.n s.xm s.c0 s.c1 s.c2 s.c3 s.c4 s.c5 s.c6 s.c7 p.p0 p.p1 p.p2 p.p3 p.p4 p.p5 p.p6 p.p7 p.p8 p.p9 p.p10 p.p11 p.p12 hb _ hks hsy _ _ hf2 hf3 k5
  · rw [if_neg k5]; exact heardR_ok 40 g W now s.ver (s.n != 0) s.pd s.t s.n s.xm s.c0 s.c1 s.c2 s.c3 s.c4 s.c5 s.c6 s.c7 p.p0 p.p1 p.p2 p.p3 p.p4 p.p5 p.p6 p.p7 p.p8 p.p9 p.p10 p.p11 p.p12 hb _ hks hsy _ _ hf2 hf3 k5

theorem recvR_calls (g : Nat) (w : World) (s : S) (p : Np) (now : Int) (hi : s.inv) (ho : p.ok) (hb : Blk w g 59 s.cR) : Calls Try.prog 15 #[.pointer (some ⟨g, 0, none⟩), .agg p.v, .int .i64 now] w fun e w' =>
    e = .returned (.agg (recv s p now).1.v) ∧ Blk w' g 59 (recv s p now).2.cR ∧ Grew w w' (some g) := by
  have hck : timesyncref19_Check.f p.p0 p.p1 p.p2 p.p3 p.p4 p.p5 p.p6 p.p7 p.p8 p.p9 p.p10 p.p11 p.p12 = some (chk p.p0 p.p1 p.p2 p.p3 p.p4 p.p5) := rcheck_f p.p0 p.p1 p.p2 p.p3 p.p4 p.p5 p.p6 p.p7 p.p8 p.p9 p.p10 p.p11 p.p12
  unfold recv out
  by_cases h1 : chk p.p0 p.p1 p.p2 p.p3 p.p4 p.p5 ≠ 0
  · simp only [if_pos h1]; exact recvR_bad1 g w now s.ver (s.n != 0) s.pd s.t s.n s.xm s.c0 s.c1 s.c2 s.c3 s.c4 s.c5 s.c6 s.c7 p.p0 p.p1 p.p2 p.p3 p.p4 p.p5 p.p6 p.p7 p.p8 p.p9 p.p10 p.p11 p.p12 hb _ hck h1
  simp only [if_neg h1]
  rw [(by simpa using h1 : chk p.p0 p.p1 p.p2 p.p3 p.p4 p.p5 = 0)] at hck
  by_cases h2 : p.p2 ≠ 4
  · simp only [if_pos h2]; exact recvR_bad2 g w now s.ver (s.n != 0) s.pd s.t s.n s.xm s.c0 s.c1 s.c2 s.c3 s.c4 s.c5 s.c6 s.c7 p.p0 p.p1 p.p2 p.p3 p.p4 p.p5 p.p6 p.p7 p.p8 p.p9 p.p10 p.p11 p.p12 hb hck h2
  simp only [if_neg h2]
  have h2' : p.p2 = 4 := by omega
  by_cases h3 : inb now = false
  · simp only [if_pos h3]; exact recvR_bad3 g w now s.ver (s.n != 0) s.pd s.t s.n s.xm s.c0 s.c1 s.c2 s.c3 s.c4 s.c5 s.c6 s.c7 p.p0 p.p1 p.p2 p.p3 p.p4 p.p5 p.p6 p.p7 p.p8 p.p9 p.p10 p.p11 p.p12 hb hck h2' (h3 ▸ rin_f now)
  simp only [if_neg h3]
  have hI : inb now = true := by simpa using h3
  have hin : timesyncref31_in.f now = some true := by rw [← hI]; exact rin_f now
  by_cases z : s.n = 0
  · have e : s.cR = #[.int .i64 s.ver, .bool false, .bool false, .int .i64 s.t, .int .u64 s.n, .int .u64 s.xm, .int .i64 s.c0, .int .i64 s.c1, .int .i64 s.c2, .int .i64 s.c3, .int .i64 s.c4, .int .i64 s.c5, .int .i64 s.c6, .int .i64 s.c7] := by unfold S.cR; rw [bne_eq_false_iff_eq.mpr z, (hi z).2]
    have e2 : (s.bump 1).cR = #[.int .i64 s.ver, .bool false, .bool false, .int .i64 s.t, .int .u64 s.n, .int .u64 s.xm, .int .i64 s.c0, .int .i64 (wrap64 (s.c1 + 1)), .int .i64 s.c2, .int .i64 s.c3, .int .i64 s.c4, .int .i64 s.c5, .int .i64 s.c6, .int .i64 s.c7] := by unfold S.bump S.cR; simp only []; rw [bne_eq_false_iff_eq.mpr z, (hi z).2]
    have hq : ¬ (s.n ≠ 0 ∧ now < s.t) := fun h => h.1 z
    simp only [if_neg hq, if_pos (hi z).2]
    rw [e] at hb
    have := recvR_nonez g w now s.ver (s.n != 0) s.pd s.t s.n s.xm s.c0 s.c1 s.c2 s.c3 s.c4 s.c5 s.c6 s.c7 p.p0 p.p1 p.p2 p.p3 p.p4 p.p5 p.p6 p.p7 p.p8 p.p9 p.p10 p.p11 p.p12 hb hck h2' hin
    rw [← e2] at this
    exact this
  have e : ∀ b, s.pd = b → s.cR = #[.int .i64 s.ver, .bool true, .bool b, .int .i64 s.t, .int .u64 s.n, .int .u64 s.xm, .int .i64 s.c0, .int .i64 s.c1, .int .i64 s.c2, .int .i64 s.c3, .int .i64 s.c4, .int .i64 s.c5, .int .i64 s.c6, .int .i64 s.c7] := fun b h => by unfold S.cR; rw [bne_iff_ne.mpr z, h]
  have e0 : ∀ (b : Bool) (x : Int), ({ s with pd := b, xm := x } : S).cR = #[.int .i64 s.ver, .bool true, .bool b, .int .i64 s.t, .int .u64 s.n, .int .u64 x, .int .i64 s.c0, .int .i64 s.c1, .int .i64 s.c2, .int .i64 s.c3, .int .i64 s.c4, .int .i64 s.c5, .int .i64 s.c6, .int .i64 s.c7] := fun b x => by unfold S.cR; simp only []; rw [bne_iff_ne.mpr z]
  by_cases h4 : now < s.t
  · have hq : s.n ≠ 0 ∧ now < s.t := ⟨z, h4⟩
    simp only [if_pos hq]
    rw [e s.pd rfl] at hb
    have e2 : (s.bump 0).cR = #[.int .i64 s.ver, .bool true, .bool s.pd, .int .i64 s.t, .int .u64 s.n, .int .u64 s.xm, .int .i64 (wrap64 (s.c0 + 1)), .int .i64 s.c1, .int .i64 s.c2, .int .i64 s.c3, .int .i64 s.c4, .int .i64 s.c5, .int .i64 s.c6, .int .i64 s.c7] := by unfold S.bump S.cR; simp only []; rw [bne_iff_ne.mpr z]
    have := recvR_bad4 g w now s.ver (s.n != 0) s.pd s.t s.n s.xm s.c0 s.c1 s.c2 s.c3 s.c4 s.c5 s.c6 s.c7 p.p0 p.p1 p.p2 p.p3 p.p4 p.p5 p.p6 p.p7 p.p8 p.p9 p.p10 p.p11 p.p12 hb hck h2' hin h4
    rw [← e2] at this
    exact this
  have hq : ¬ (s.n ≠ 0 ∧ now < s.t) := fun h => h4 h.2
  simp only [if_neg hq]
  by_cases h5 : s.pd = false
  · simp only [if_pos h5]
    rw [e _ h5] at hb
    have e2 : (s.bump 1).cR = #[.int .i64 s.ver, .bool true, .bool false, .int .i64 s.t, .int .u64 s.n, .int .u64 s.xm, .int .i64 s.c0, .int .i64 (wrap64 (s.c1 + 1)), .int .i64 s.c2, .int .i64 s.c3, .int .i64 s.c4, .int .i64 s.c5, .int .i64 s.c6, .int .i64 s.c7] := by unfold S.bump S.cR; simp only []; rw [bne_iff_ne.mpr z, h5]
    have := recvR_nonen g w now s.ver (s.n != 0) s.pd s.t s.n s.xm s.c0 s.c1 s.c2 s.c3 s.c4 s.c5 s.c6 s.c7 p.p0 p.p1 p.p2 p.p3 p.p4 p.p5 p.p6 p.p7 p.p8 p.p9 p.p10 p.p11 p.p12 hb hck h2' hin h4
    rw [← e2] at this
    exact this
  simp only [if_neg h5]
  have h5' : s.pd = true := by simpa using h5
  rw [e _ h5'] at hb
  by_cases h6 : p.p10 ≠ s.n
  · simp only [if_pos h6]
    have e2 : (s.bump 2).cR = #[.int .i64 s.ver, .bool true, .bool true, .int .i64 s.t, .int .u64 s.n, .int .u64 s.xm, .int .i64 s.c0, .int .i64 s.c1, .int .i64 (wrap64 (s.c2 + 1)), .int .i64 s.c3, .int .i64 s.c4, .int .i64 s.c5, .int .i64 s.c6, .int .i64 s.c7] := by unfold S.bump S.cR; simp only []; rw [bne_iff_ne.mpr z, h5']
    have := recvR_bogus g w now s.ver (s.n != 0) s.pd s.t s.n s.xm s.c0 s.c1 s.c2 s.c3 s.c4 s.c5 s.c6 s.c7 p.p0 p.p1 p.p2 p.p3 p.p4 p.p5 p.p6 p.p7 p.p8 p.p9 p.p10 p.p11 p.p12 hb hck h2' hin h4 h6
    rw [← e2] at this
    exact this
  simp only [if_neg h6]
  have h6' : p.p10 = s.n := by omega
  have hh : ∀ W, Blk W g 59 #[.int .i64 s.ver, .bool true, .bool true, .int .i64 s.t, .int .u64 s.n, .int .u64 s.xm, .int .i64 s.c0, .int .i64 s.c1, .int .i64 s.c2, .int .i64 s.c3, .int .i64 s.c4, .int .i64 s.c5, .int .i64 s.c6, .int .i64 s.c7] → Calls Try.prog 29 #[.pointer (some ⟨g, 0, none⟩), .agg p.v, .int .i64 now] W fun e w' => e = .returned (.agg (acc s.t p now).v) ∧ Grew W w' none := fun W hW => heardR_acc g s p now ho hI W (by rw [e _ h5']; exact hW)
  have hv : ∀ k, (acc s.t p now).k = k → (acc s.t p now).v = #[.int .i64 k, .string (acc s.t p now).s, .int .i64 (acc s.t p now).q1, .int .i64 (acc s.t p now).q2, .int .i64 (acc s.t p now).q3, .int .i64 (acc s.t p now).q4] := fun k e => by unfold Hd.v; rw [e]

  have e4 : (({ s with pd := false, xm := p.p12 } : S).bump 4).cR = #[.int .i64 s.ver, .bool true, .bool false, .int .i64 s.t, .int .u64 s.n, .int .u64 p.p12, .int .i64 s.c0, .int .i64 s.c1, .int .i64 s.c2, .int .i64 s.c3, .int .i64 (wrap64 (s.c4 + 1)), .int .i64 s.c5, .int .i64 s.c6, .int .i64 s.c7] := by unfold S.bump S.cR; simp only []; rw [bne_iff_ne.mpr z]
  have e5 : (({ s with pd := false, xm := p.p12 } : S).bump 5).cR = #[.int .i64 s.ver, .bool true, .bool false, .int .i64 s.t, .int .u64 s.n, .int .u64 p.p12, .int .i64 s.c0, .int .i64 s.c1, .int .i64 s.c2, .int .i64 s.c3, .int .i64 s.c4, .int .i64 (wrap64 (s.c5 + 1)), .int .i64 s.c6, .int .i64 s.c7] := by unfold S.bump S.cR; simp only []; rw [bne_iff_ne.mpr z]
  have e6 : (({ s with pd := false, xm := p.p12 } : S).bump 6).cR = #[.int .i64 s.ver, .bool true, .bool false, .int .i64 s.t, .int .u64 s.n, .int .u64 p.p12, .int .i64 s.c0, .int .i64 s.c1, .int .i64 s.c2, .int .i64 s.c3, .int .i64 s.c4, .int .i64 s.c5, .int .i64 (wrap64 (s.c6 + 1)), .int .i64 s.c7] := by unfold S.bump S.cR; simp only []; rw [bne_iff_ne.mpr z]
  have e7 : (({ s with pd := false, xm := p.p12 } : S).bump 7).cR = #[.int .i64 s.ver, .bool true, .bool false, .int .i64 s.t, .int .u64 s.n, .int .u64 p.p12, .int .i64 s.c0, .int .i64 s.c1, .int .i64 s.c2, .int .i64 s.c3, .int .i64 s.c4, .int .i64 s.c5, .int .i64 s.c6, .int .i64 (wrap64 (s.c7 + 1))] := by unfold S.bump S.cR; simp only []; rw [bne_iff_ne.mpr z]
  by_cases h7 : p.p12 = 0
  · have hq2 : ¬ (p.p12 ≠ 0 ∧ p.p12 = s.xm) := fun h => h.1 h7
    simp only [if_neg hq2]
    rcases acc_k s.t p now with h | h | h | h
    · rw [h]
      simp only [hv _ h] at hh ⊢
      have := recvR_pass4a g w now s.ver (s.n != 0) s.pd s.t s.n s.xm s.c0 s.c1 s.c2 s.c3 s.c4 s.c5 s.c6 s.c7 p.p0 p.p1 p.p2 p.p3 p.p4 p.p5 p.p6 p.p7 p.p8 p.p9 p.p10 p.p11 p.p12 hb hck h2' hin h4 h6' h7 _ _ _ _ _ hh
      rw [← e4] at this
      exact this
    · rw [h]
      simp only [hv _ h] at hh ⊢
      have := recvR_pass5a g w now s.ver (s.n != 0) s.pd s.t s.n s.xm s.c0 s.c1 s.c2 s.c3 s.c4 s.c5 s.c6 s.c7 p.p0 p.p1 p.p2 p.p3 p.p4 p.p5 p.p6 p.p7 p.p8 p.p9 p.p10 p.p11 p.p12 hb hck h2' hin h4 h6' h7 _ _ _ _ _ hh
      rw [← e5] at this
      exact this
    · rw [h]
      simp only [hv _ h] at hh ⊢
      have := recvR_pass6a g w now s.ver (s.n != 0) s.pd s.t s.n s.xm s.c0 s.c1 s.c2 s.c3 s.c4 s.c5 s.c6 s.c7 p.p0 p.p1 p.p2 p.p3 p.p4 p.p5 p.p6 p.p7 p.p8 p.p9 p.p10 p.p11 p.p12 hb hck h2' hin h4 h6' h7 _ _ _ _ _ hh
      rw [← e6] at this
      exact this
    · rw [h]
      simp only [hv _ h] at hh ⊢
      have := recvR_pass7a g w now s.ver (s.n != 0) s.pd s.t s.n s.xm s.c0 s.c1 s.c2 s.c3 s.c4 s.c5 s.c6 s.c7 p.p0 p.p1 p.p2 p.p3 p.p4 p.p5 p.p6 p.p7 p.p8 p.p9 p.p10 p.p11 p.p12 hb hck h2' hin h4 h6' h7 _ _ _ _ _ hh
      rw [← e7] at this
      exact this

  by_cases h8 : p.p12 = s.xm
  · have hq2 : p.p12 ≠ 0 ∧ p.p12 = s.xm := ⟨h7, h8⟩
    simp only [if_pos hq2]
    have e2 : (s.bump 3).cR = #[.int .i64 s.ver, .bool true, .bool true, .int .i64 s.t, .int .u64 s.n, .int .u64 s.xm, .int .i64 s.c0, .int .i64 s.c1, .int .i64 s.c2, .int .i64 (wrap64 (s.c3 + 1)), .int .i64 s.c4, .int .i64 s.c5, .int .i64 s.c6, .int .i64 s.c7] := by unfold S.bump S.cR; simp only []; rw [bne_iff_ne.mpr z, h5']
    have := recvR_dup g w now s.ver (s.n != 0) s.pd s.t s.n s.xm s.c0 s.c1 s.c2 s.c3 s.c4 s.c5 s.c6 s.c7 p.p0 p.p1 p.p2 p.p3 p.p4 p.p5 p.p6 p.p7 p.p8 p.p9 p.p10 p.p11 p.p12 hb hck h2' hin h4 h6' h7 h8
    rw [← e2] at this
    exact this
  have hq2 : ¬ (p.p12 ≠ 0 ∧ p.p12 = s.xm) := fun h => h8 h.2
  simp only [if_neg hq2]
  rcases acc_k s.t p now with h | h | h | h
  · rw [h]
    simp only [hv _ h] at hh ⊢
    have := recvR_pass4b g w now s.ver (s.n != 0) s.pd s.t s.n s.xm s.c0 s.c1 s.c2 s.c3 s.c4 s.c5 s.c6 s.c7 p.p0 p.p1 p.p2 p.p3 p.p4 p.p5 p.p6 p.p7 p.p8 p.p9 p.p10 p.p11 p.p12 hb hck h2' hin h4 h6' h7 h8 _ _ _ _ _ hh
    rw [← e4] at this
    exact this
  · rw [h]
    simp only [hv _ h] at hh ⊢
    have := recvR_pass5b g w now s.ver (s.n != 0) s.pd s.t s.n s.xm s.c0 s.c1 s.c2 s.c3 s.c4 s.c5 s.c6 s.c7 p.p0 p.p1 p.p2 p.p3 p.p4 p.p5 p.p6 p.p7 p.p8 p.p9 p.p10 p.p11 p.p12 hb hck h2' hin h4 h6' h7 h8 _ _ _ _ _ hh
    rw [← e5] at this
    exact this
  · rw [h]
    simp only [hv _ h] at hh ⊢
    have := recvR_pass6b g w now s.ver (s.n != 0) s.pd s.t s.n s.xm s.c0 s.c1 s.c2 s.c3 s.c4 s.c5 s.c6 s.c7 p.p0 p.p1 p.p2 p.p3 p.p4 p.p5 p.p6 p.p7 p.p8 p.p9 p.p10 p.p11 p.p12 hb hck h2' hin h4 h6' h7 h8 _ _ _ _ _ hh
    rw [← e6] at this
    exact this
  · rw [h]
    simp only [hv _ h] at hh ⊢
    have := recvR_pass7b g w now s.ver (s.n != 0) s.pd s.t s.n s.xm s.c0 s.c1 s.c2 s.c3 s.c4 s.c5 s.c6 s.c7 p.p0 p.p1 p.p2 p.p3 p.p4 p.p5 p.p6 p.p7 p.p8 p.p9 p.p10 p.p11 p.p12 hb hck h2' hin h4 h6' h7 h8 _ _ _ _ _ hh
    rw [← e7] at this
    exact this

end Go.Proofs.Ytohjmfjdopffkaa.As
