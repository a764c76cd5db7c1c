/- What the statements about assoc say of the states, without any program: the outcomes of replays, of an exchange, of any reply. -/
import Derived.Test.YtohjmfjdopffkaaAsOpen
namespace Go.Proofs.Ytohjmfjdopffkaa.As
open Go Go.RowKit Go.Proofs.Ytohjmfjdopffkaa.PAs Go.Proofs.Ytohjmfjdopffkaa.AsP Go.Proofs.Ytohjmfjdopffkaa.StAs Go.Proofs.Ytohjmfjdopffkaa.Ob Go.Proofs.YtohjmfjdopffkaaW.PrintWords
set_option linter.unusedVariables false
set_option linter.unusedSimpArgs false
theorem recv_lit (s : S) (p : Np) (now : Int) (h : Hd) (hh : (recv s p now).1 = h) (hi : s.inv) (ho : p.ok) (g : Nat) (W : World) (hb : Blk W g 57 s.cP) :
    Calls Try.prog 14 #[.pointer (some ⟨g, 0, none⟩), .agg p.v, .int .i64 now] W fun e w' => e = .returned (.agg h.v) ∧ Blk w' g 57 (recv s p now).2.cP ∧ Grew W w' (some g) := by
  subst hh; exact recvP_calls g W s p now hi ho hb
theorem send_lit (s : S) (now nonce : Int) (h0 : inb now = true) (h1 : nonce ≠ 0) (h2 : nonce ≠ s.n) (hv : s.ver = 4) (g : Nat) (W : World) (hb : Blk W g 57 s.cP) :
    Calls Try.prog 12 #[.pointer (some ⟨g, 0, none⟩), .int .i64 now, .int .u64 nonce] W fun e w' => e = .returned (.tuple #[.agg (req31 4 nonce), .int .i64 0]) ∧ Blk w' g 57 (send s now nonce).2.cP ∧ Grew W w' (some g) := by
  have h := sendP_calls g W s now nonce hb
  have e : send s now nonce = (0, { s with n := nonce, t := now, pd := true }) := by unfold send; rw [if_neg (by simp [h0]), if_neg h1, if_neg h2]
  have e1 : sent s now nonce = .tuple #[.agg (req31 4 nonce), .int .i64 0] := by unfold sent; rw [e]; simp only [if_true]; rw [hv]
  rw [e1] at h
  exact h
theorem send_ok (s : S) (now nonce : Int) (h0 : inb now = true) (h1 : nonce ≠ 0) (h2 : nonce ≠ s.n) : send s now nonce = (0, { s with n := nonce, t := now, pd := true }) := by
  unfold send; rw [if_neg (by simp [h0]), if_neg h1, if_neg h2]
theorem bump_v (s : S) (k : Nat) : (s.bump k).ver = s.ver ∧ (s.bump k).n = s.n ∧ (s.bump k).t = s.t ∧ (s.bump k).pd = s.pd ∧ (s.bump k).xm = s.xm := by
  unfold S.bump; split <;> exact ⟨rfl, rfl, rfl, rfl, rfl⟩
/-- A reply with an outcome below HeardKiss leaves everything but the counts; one above ends the request. -/
theorem recv_low (s : S) (p : Np) (now : Int) (h : (recv s p now).1.k ≤ 3) : (recv s p now).2.ver = s.ver ∧ (recv s p now).2.n = s.n ∧ (recv s p now).2.t = s.t ∧ (recv s p now).2.pd = s.pd ∧ (recv s p now).2.xm = s.xm := by
  have e : (recv s p now).2 = s.bump (out s p now).k.toNat := by unfold recv; simp only []; rw [if_neg (by have : (out s p now).k ≤ 3 := h; omega)]
  rw [e]; exact bump_v _ _
theorem recv_high (s : S) (p : Np) (now : Int) (h : 3 < (recv s p now).1.k) : (recv s p now).2.ver = s.ver ∧ (recv s p now).2.n = s.n ∧ (recv s p now).2.t = s.t ∧ (recv s p now).2.pd = false ∧ (recv s p now).2.xm = p.p12 := by
  have e : (recv s p now).2 = ({ s with pd := false, xm := p.p12 } : S).bump (out s p now).k.toNat := by unfold recv; simp only []; rw [if_pos (by have : 3 < (out s p now).k := h; omega)]
  rw [e]
  obtain ⟨a, b, c, d, e⟩ := bump_v ({ s with pd := false, xm := p.p12 } : S) (out s p now).k.toNat
  exact ⟨a, b, c, d, e⟩
/-- The first state: an association of version 4. -/
def s0 : S := ⟨4, 0, 0, false, 0, 0, 0, 0, 0, 0, 0, 0, 0⟩
theorem s0_inv : s0.inv := fun _ => ⟨rfl, rfl⟩
/-- A valid reply: what becomes of it hangs on the request alone. -/
def good (p : Np) : Prop := chk p.p0 p.p1 p.p2 p.p3 p.p4 p.p5 = 0 ∧ p.p2 = 4
theorem out_good (s : S) (p : Np) (now : Int) (hg : good p) (hi : inb now = true) (hl : ¬ (s.n ≠ 0 ∧ now < s.t)) : out s p now = if s.pd = false then bare 1 else if p.p10 ≠ s.n then bare 2 else if p.p12 ≠ 0 ∧ p.p12 = s.xm then bare 3 else acc s.t p now := by
  unfold out
  rw [if_neg (by simp [hg.1]), if_neg (by simp [hg.2]), if_neg (by simp [hi]), if_neg hl]
theorem out_bad (s : S) (p : Np) (now : Int) (hg : ¬ good p) : out s p now = bare 0 := by
  unfold out
  by_cases h : chk p.p0 p.p1 p.p2 p.p3 p.p4 p.p5 ≠ 0
  · rw [if_pos h]
  · rw [if_neg h, if_pos (fun e => hg ⟨by simpa using h, e⟩)]
theorem recv_1 (s : S) (p : Np) (now : Int) : (recv s p now).1 = out s p now := rfl
theorem acc_hi (t : Int) (p : Np) (now : Int) : 3 < (acc t p now).k ∧ (acc t p now).k ≠ 3 ∧ ¬ (acc t p now).k < 4 := by
  have := acc_k t p now; omega
theorem acc_q (t : Int) (p : Np) (now : Int) (h : (acc t p now).k ≠ 7) : (acc t p now).q1 = 0 ∧ (acc t p now).q2 = 0 ∧ (acc t p now).q3 = 0 ∧ (acc t p now).q4 = 0 := by
  unfold acc at h ⊢
  by_cases a0 : (kis p.p3 p.p8).2 = true
  · rw [if_pos a0]; exact ⟨rfl, rfl, rfl, rfl⟩
  rw [if_neg a0] at h ⊢
  by_cases a1 : syn p.p0 p.p3 = false
  · rw [if_pos a1]; exact ⟨rfl, rfl, rfl, rfl⟩
  rw [if_neg a1] at h ⊢
  by_cases a2 : (fnd p.p11 now).2 = false
  · rw [if_pos a2]; exact ⟨rfl, rfl, rfl, rfl⟩
  rw [if_neg a2] at h ⊢
  by_cases a3 : (fnd p.p12 now).2 = false
  · rw [if_pos a3]; exact ⟨rfl, rfl, rfl, rfl⟩
  rw [if_neg a3] at h ⊢
  by_cases a4 : (fnd p.p12 now).1 < (fnd p.p11 now).1
  · rw [if_pos a4]; exact ⟨rfl, rfl, rfl, rfl⟩
  rw [if_neg a4] at h ⊢
  exact absurd rfl h
/-- An outcome that is not HeardOk has no instants. -/
theorem out_q (s : S) (p : Np) (now : Int) (h : (out s p now).k ≠ 7) : (out s p now).q1 = 0 ∧ (out s p now).q2 = 0 ∧ (out s p now).q3 = 0 ∧ (out s p now).q4 = 0 := by
  unfold out at h ⊢
  by_cases a0 : chk p.p0 p.p1 p.p2 p.p3 p.p4 p.p5 ≠ 0
  · rw [if_pos a0]; exact ⟨rfl, rfl, rfl, rfl⟩
  rw [if_neg a0] at h ⊢
  by_cases a1 : p.p2 ≠ 4
  · rw [if_pos a1]; exact ⟨rfl, rfl, rfl, rfl⟩
  rw [if_neg a1] at h ⊢
  by_cases a2 : inb now = false
  · rw [if_pos a2]; exact ⟨rfl, rfl, rfl, rfl⟩
  rw [if_neg a2] at h ⊢
  by_cases a3 : s.n ≠ 0 ∧ now < s.t
  · rw [if_pos a3]; exact ⟨rfl, rfl, rfl, rfl⟩
  rw [if_neg a3] at h ⊢
  by_cases a4 : s.pd = false
  · rw [if_pos a4]; exact ⟨rfl, rfl, rfl, rfl⟩
  rw [if_neg a4] at h ⊢
  by_cases a5 : p.p10 ≠ s.n
  · rw [if_pos a5]; exact ⟨rfl, rfl, rfl, rfl⟩
  rw [if_neg a5] at h ⊢
  by_cases a6 : p.p12 ≠ 0 ∧ p.p12 = s.xm
  · rw [if_pos a6]; exact ⟨rfl, rfl, rfl, rfl⟩
  rw [if_neg a6] at h ⊢
  exact acc_q _ _ _ h
theorem acc_7 (t : Int) (p : Np) (now : Int) (h : (acc t p now).k = 7) : acc t p now = ⟨7, ⟨#[]⟩, t, (fnd p.p11 now).1, (fnd p.p12 now).1, now⟩ ∧ (fnd p.p11 now).2 = true ∧ (fnd p.p12 now).2 = true ∧ ¬ (fnd p.p12 now).1 < (fnd p.p11 now).1 := by
  unfold acc at h ⊢
  by_cases a : (kis p.p3 p.p8).2 = true
  · rw [if_pos a] at h; cases h
  rw [if_neg a] at h ⊢
  by_cases b : syn p.p0 p.p3 = false
  · rw [if_pos b] at h; cases h
  rw [if_neg b] at h ⊢
  by_cases c : (fnd p.p11 now).2 = false
  · rw [if_pos c] at h; cases h
  rw [if_neg c] at h ⊢
  by_cases d : (fnd p.p12 now).2 = false
  · rw [if_pos d] at h; cases h
  rw [if_neg d] at h ⊢
  by_cases e : (fnd p.p12 now).1 < (fnd p.p11 now).1
  · rw [if_pos e] at h; cases h
  rw [if_neg e]
  exact ⟨rfl, by simpa using c, by simpa using d, e⟩
theorem out_7 (s : S) (p : Np) (now : Int) (h : (out s p now).k = 7) : good p ∧ inb now = true ∧ ¬ (s.n ≠ 0 ∧ now < s.t) ∧ s.pd = true ∧ p.p10 = s.n ∧ out s p now = acc s.t p now := by
  unfold out at h ⊢
  by_cases a : chk p.p0 p.p1 p.p2 p.p3 p.p4 p.p5 ≠ 0
  · rw [if_pos a] at h; cases h
  rw [if_neg a] at h ⊢
  by_cases b : p.p2 ≠ 4
  · rw [if_pos b] at h; cases h
  rw [if_neg b] at h ⊢
  by_cases c : inb now = false
  · rw [if_pos c] at h; cases h
  rw [if_neg c] at h ⊢
  by_cases d : s.n ≠ 0 ∧ now < s.t
  · rw [if_pos d] at h; cases h
  rw [if_neg d] at h ⊢
  by_cases e : s.pd = false
  · rw [if_pos e] at h; cases h
  rw [if_neg e] at h ⊢
  by_cases f : p.p10 ≠ s.n
  · rw [if_pos f] at h; cases h
  rw [if_neg f] at h ⊢
  by_cases g : p.p12 ≠ 0 ∧ p.p12 = s.xm
  · rw [if_pos g] at h; cases h
  rw [if_neg g]
  exact ⟨⟨by simpa using a, by simpa using b⟩, by simpa using c, d, by simpa using e, by simpa using f, rfl⟩
theorem inb_iff (t : Int) : inb t = true ↔ -4503599627370496 ≤ t ∧ t ≤ 4503599627370496 := by unfold inb; exact decide_eq_true_iff
theorem fnd_near (s now : Int) (s0 : 0 ≤ s) (s1 : s ≤ 18446744073709551615) (hi : inb now = true) (h : (fnd s now).2 = true) :
    inb (fnd s now).1 = true ∧ 0 ≤ sg (un (3900000000000000000 + (fnd s now).1) % 18446744073709551616 - s) ∧ sg (un (3900000000000000000 + (fnd s now).1) % 18446744073709551616 - s) ≤ 4 := by
  have hi' := (inb_iff now).1 hi
  unfold fnd at h ⊢
  simp only [decide_eq_true_eq] at h
  rcases tm_near s (3900000000000000000 + now) s0 s1 (by omega) (by omega) with ⟨e, _⟩ | ⟨t, e, a, b, c, d, f, g⟩
  · rw [e] at h; exact absurd h.1 (by decide)
  · rw [e] at h ⊢
    refine ⟨h.2, ?_⟩
    have : 3900000000000000000 + (t - 3900000000000000000) = t := by omega
    simp only [this]
    exact ⟨f, g⟩
end Go.Proofs.Ytohjmfjdopffkaa.As
