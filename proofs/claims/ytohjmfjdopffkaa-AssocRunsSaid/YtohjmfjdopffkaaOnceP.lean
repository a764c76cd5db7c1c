/- AssocOnce without any program: what a call does to the object's state and its counts. -/
import Derived.Test.YtohjmfjdopffkaaAsOps
namespace Go.Proofs.Ytohjmfjdopffkaa.As
open Go Go.RowKit Go.Proofs.Ytohjmfjdopffkaa.PAs Go.Proofs.Ytohjmfjdopffkaa.FxAs Go.Proofs.Ytohjmfjdopffkaa.AsP Go.Proofs.Ytohjmfjdopffkaa.StAs Go.Proofs.Ytohjmfjdopffkaa.Ob Go.Proofs.Ytohjmfjdopffkaa.Math Go.Proofs.YtohjmfjdopffkaaW.PrintWords
set_option linter.unusedVariables false
set_option linter.unusedSimpArgs false
theorem blk_set {w : World} {g p : Nat} {t : TypeId} {cs : Array Value} (h : Blk w g t cs) (i : Nat) (u : Value) (hne : g ≠ p) : Blk (w.setCell ⟨p, i, none⟩ u) g t cs := h.far (grew_setCell w p i u) hne
theorem blk_old {w : World} {g : Nat} {t : TypeId} {cs : Array Value} (h : Blk w g t cs) (o : Obj) : Blk (w.alloc o) g t cs := (Below.heap_alloc w o g h.lt).trans h
theorem grew_alloc (w : World) (o : Obj) (row : Option Nat) : Grew w (w.alloc o) row := Grew.below (below_alloc (Below.refl _ _) _)
/-- Stores into one block, one behind the other. -/
def setsL (w : World) (g : Nat) : Nat → List Value → World
  | _, [] => w
  | i, v :: r => setsL (w.setCell ⟨g, i, none⟩ v) g (i + 1) r
def putL (cs : Array Value) : Nat → List Value → Array Value
  | _, [] => cs
  | i, v :: r => putL (cs.setIfInBounds i v) (i + 1) r
theorem setsL_blk {g : Nat} {t : TypeId} : ∀ (vs : List Value) (i : Nat) (w : World) (cs : Array Value), Blk w g t cs → Blk (setsL w g i vs) g t (putL cs i vs)
  | [], _, _, _, h => h
  | v :: r, i, w, cs, h => setsL_blk r (i + 1) _ _ (h.put i v rfl)
theorem putL_at : ∀ (vs : List Value) (i : Nat) (cs : Array Value), i + vs.length = cs.size → (putL cs i vs).toList = cs.toList.take i ++ vs
  | [], i, cs, h => by show cs.toList = _; simp at h; rw [List.append_nil, List.take_of_length_le (by simp; omega)]
  | v :: r, i, cs, h => by
    show (putL (cs.setIfInBounds i v) (i + 1) r).toList = _
    simp at h
    rw [putL_at r (i + 1) _ (by simp; omega), Array.toList_setIfInBounds, List.take_succ_eq_append_getElem (by simp; omega)]
    simp [List.take_set_of_le]
theorem setsL_full {g : Nat} {t : TypeId} (vs : List Value) (w : World) (cs : Array Value) (h : Blk w g t cs) (hl : vs.length = cs.size) : Blk (setsL w g 0 vs) g t vs.toArray := by
  have e : putL cs 0 vs = vs.toArray := by
    apply Array.toList_inj.1
    rw [putL_at vs 0 cs (by omega)]; simp
  rw [← e]; exact setsL_blk vs 0 w cs h
theorem setsL_far {g p : Nat} {t : TypeId} {cs : Array Value} (hne : g ≠ p) : ∀ (vs : List Value) (i : Nat) (w : World), Blk w g t cs → Blk (setsL w p i vs) g t cs
  | [], _, _, h => h
  | v :: r, i, w, h => setsL_far hne r (i + 1) _ (blk_set h i v hne)
theorem setsL_grew {a : World} {g : Nat} (hge : a.heap.size ≤ g) : ∀ (vs : List Value) (i : Nat) (w : World), Grew a w none → Grew a (setsL w g i vs) none
  | [], _, _, h => h
  | v :: r, i, w, h => setsL_grew hge r (i + 1) _ (h.then_own (grew_setCell _ _ _ _) hge)
/-- The counts, and their sum. -/
def S.zs (s : S) : List Int := [s.c0, s.c1, s.c2, s.c3, s.c4, s.c5, s.c6, s.c7]
structure CS (s : S) (r : Int) : Prop where
  h0 : 0 ≤ s.c0
  h1 : 0 ≤ s.c1
  h2 : 0 ≤ s.c2
  h3 : 0 ≤ s.c3
  h4 : 0 ≤ s.c4
  h5 : 0 ≤ s.c5
  h6 : 0 ≤ s.c6
  h7 : 0 ≤ s.c7
  sum : s.c0 + s.c1 + s.c2 + s.c3 + s.c4 + s.c5 + s.c6 + s.c7 = r
theorem CS.bump {s : S} {r : Int} (h : CS s r) (hr : r ≤ 1000) (k : Nat) (hk : k < 8) : CS (s.bump k) (r + 1) := by
  obtain ⟨h0, h1, h2, h3, h4, h5, h6, h7, hs⟩ := h
  unfold S.bump
  match k, hk with
  | 0, _ => exact ⟨by simp only [iw_in (s.c0 + 1) (by omega) (by omega)]; omega, h1, h2, h3, h4, h5, h6, h7, by simp only [iw_in (s.c0 + 1) (by omega) (by omega)]; omega⟩
  | 1, _ => exact ⟨h0, by simp only [iw_in (s.c1 + 1) (by omega) (by omega)]; omega, h2, h3, h4, h5, h6, h7, by simp only [iw_in (s.c1 + 1) (by omega) (by omega)]; omega⟩
  | 2, _ => exact ⟨h0, h1, by simp only [iw_in (s.c2 + 1) (by omega) (by omega)]; omega, h3, h4, h5, h6, h7, by simp only [iw_in (s.c2 + 1) (by omega) (by omega)]; omega⟩
  | 3, _ => exact ⟨h0, h1, h2, by simp only [iw_in (s.c3 + 1) (by omega) (by omega)]; omega, h4, h5, h6, h7, by simp only [iw_in (s.c3 + 1) (by omega) (by omega)]; omega⟩
  | 4, _ => exact ⟨h0, h1, h2, h3, by simp only [iw_in (s.c4 + 1) (by omega) (by omega)]; omega, h5, h6, h7, by simp only [iw_in (s.c4 + 1) (by omega) (by omega)]; omega⟩
  | 5, _ => exact ⟨h0, h1, h2, h3, h4, by simp only [iw_in (s.c5 + 1) (by omega) (by omega)]; omega, h6, h7, by simp only [iw_in (s.c5 + 1) (by omega) (by omega)]; omega⟩
  | 6, _ => exact ⟨h0, h1, h2, h3, h4, h5, by simp only [iw_in (s.c6 + 1) (by omega) (by omega)]; omega, h7, by simp only [iw_in (s.c6 + 1) (by omega) (by omega)]; omega⟩
  | 7, _ => exact ⟨h0, h1, h2, h3, h4, h5, h6, by simp only [iw_in (s.c7 + 1) (by omega) (by omega)]; omega, by simp only [iw_in (s.c7 + 1) (by omega) (by omega)]; omega⟩
theorem CS.recv {s : S} {r : Int} (h : CS s r) (hr : r ≤ 1000) (p : Np) (now : Int) : CS (recv s p now).2 (r + 1) := by
  have hk : (out s p now).k.toNat < 8 := by have := out_k s p now; omega
  unfold As.recv
  simp only []
  split
  · exact CS.bump (s := { s with pd := false, xm := p.p12 }) ⟨h.h0, h.h1, h.h2, h.h3, h.h4, h.h5, h.h6, h.h7, h.sum⟩ hr _ hk
  · exact h.bump hr _ hk
theorem CS.send {s : S} {r : Int} (h : CS s r) (now nonce : Int) : CS (send s now nonce).2 r := by
  unfold As.send
  repeat' split
  all_goals first | exact h | exact ⟨h.h0, h.h1, h.h2, h.h3, h.h4, h.h5, h.h6, h.h7, h.sum⟩
theorem sum_f (s : S) (r : Int) (h : CS s r) (hr : r ≤ 1000) : timesynclaw31_sum.f 20 s.zs = some r := by
  obtain ⟨h0, h1, h2, h3, h4, h5, h6, h7, hs⟩ := h
  have st : ∀ (k : Nat) (x i : Int) (j : Nat) (c : Int), i = (j : Int) → j < 8 → s.zs[j]? = some c → -1000 ≤ x + c → x + c ≤ 10000 → timesynclaw31_sum.l0 (k + 1) s.zs x i = timesynclaw31_sum.l0 k s.zs (x + c) ((j + 1 : Nat) : Int) := by
    intro k x i j c hi hj hc hl hu
    subst hi
    have hz : (s.zs.length : Int) = 8 := rfl
    have e : rd s.zs (j : Int) = c := by unfold rd; rw [Int.toNat_natCast, List.getD_eq_getElem?_getD, hc]; rfl
    simp only [timesynclaw31_sum.l0]
    rw [if_pos (by omega), if_pos (by omega), if_pos (by omega), e, iw_in (x + c) (by omega) (by omega), iw_in ((j : Int) + 1) (by omega) (by omega)]
    rfl
  unfold timesynclaw31_sum.f
  rw [if_pos (by rfl)]
  rw [st 19 0 0 0 s.c0 rfl (by omega) rfl (by omega) (by omega), st 18 _ _ 1 s.c1 rfl (by omega) rfl (by omega) (by omega), st 17 _ _ 2 s.c2 rfl (by omega) rfl (by omega) (by omega), st 16 _ _ 3 s.c3 rfl (by omega) rfl (by omega) (by omega),
    st 15 _ _ 4 s.c4 rfl (by omega) rfl (by omega) (by omega), st 14 _ _ 5 s.c5 rfl (by omega) rfl (by omega) (by omega), st 13 _ _ 6 s.c6 rfl (by omega) rfl (by omega) (by omega), st 12 _ _ 7 s.c7 rfl (by omega) rfl (by omega) (by omega)]
  simp only [timesynclaw31_sum.l0]
  rw [if_neg (by omega)]
  congr 1
  omega
theorem recv_ver (s : S) (p : Np) (now : Int) : (recv s p now).2.ver = s.ver := by
  by_cases h : 3 < (As.recv s p now).1.k
  · exact (recv_high s p now h).1
  · exact (recv_low s p now (by omega)).1
theorem sum_calls (s : S) (r : Int) (b c : Nat) (w : World) (hC : Kd.C (Kd.int .i64) w (some ⟨b, 0, none⟩) 8 s.zs) (hc : 8 ≤ c) (h : CS s r) (hr : r ≤ 1000) :
    Calls Try.prog 20 #[.slice (some ⟨b, 0, none⟩) 8 c] w fun e w' => e = .returned (.int .i64 r) ∧ Drawn0 w w' := timesynclaw31_sum.calls 20 _ c s.zs r w hC hc (sum_f s r h hr)
theorem out_hi (s : S) (p : Np) (now : Int) (h : 4 ≤ (out s p now).k) : s.pd = true ∧ p.p10 = s.n ∧ p.p2 = 4 ∧ (out s p now).k ≤ 7 := by
  have hk := out_k s p now
  unfold out at h
  by_cases a : chk p.p0 p.p1 p.p2 p.p3 p.p4 p.p5 ≠ 0
  · rw [if_pos a] at h; exact absurd h (by simp [bare])
  rw [if_neg a] at h
  by_cases b : p.p2 ≠ 4
  · rw [if_pos b] at h; exact absurd h (by simp [bare])
  rw [if_neg b] at h
  by_cases c : inb now = false
  · rw [if_pos c] at h; exact absurd h (by simp [bare])
  rw [if_neg c] at h
  by_cases d : s.n ≠ 0 ∧ now < s.t
  · rw [if_pos d] at h; exact absurd h (by simp [bare])
  rw [if_neg d] at h
  by_cases e : s.pd = false
  · rw [if_pos e] at h; exact absurd h (by simp [bare])
  rw [if_neg e] at h
  by_cases f : p.p10 ≠ s.n
  · rw [if_pos f] at h; exact absurd h (by simp [bare])
  exact ⟨by simpa using e, by simpa using f, by simpa using b, by omega⟩
theorem out_lo (s : S) (p : Np) (now : Int) (h : ¬ 4 ≤ (out s p now).k) : out s p now = bare (out s p now).k ∧ ((out s p now).k = 1 → s.pd = false) := by
  have ha := acc_k s.t p now
  unfold out at h ⊢
  by_cases a : chk p.p0 p.p1 p.p2 p.p3 p.p4 p.p5 ≠ 0
  · rw [if_pos a]; exact ⟨rfl, fun e => by cases e⟩
  rw [if_neg a] at h ⊢
  by_cases b : p.p2 ≠ 4
  · rw [if_pos b]; exact ⟨rfl, fun e => by cases e⟩
  rw [if_neg b] at h ⊢
  by_cases c : inb now = false
  · rw [if_pos c]; exact ⟨rfl, fun e => by cases e⟩
  rw [if_neg c] at h ⊢
  by_cases d : s.n ≠ 0 ∧ now < s.t
  · rw [if_pos d]; exact ⟨rfl, fun e => by cases e⟩
  rw [if_neg d] at h ⊢
  by_cases e : s.pd = false
  · rw [if_pos e]; exact ⟨rfl, fun _ => e⟩
  rw [if_neg e] at h ⊢
  by_cases f : p.p10 ≠ s.n
  · rw [if_pos f]; exact ⟨rfl, fun e => by cases e⟩
  rw [if_neg f] at h ⊢
  by_cases g : p.p12 ≠ 0 ∧ p.p12 = s.xm
  · rw [if_pos g]; exact ⟨rfl, fun e => by cases e⟩
  rw [if_neg g] at h
  exact absurd (by omega) h
theorem send_0 (s : S) (now nonce : Int) (h : (send s now nonce).1 = 0) : inb now = true ∧ nonce ≠ 0 ∧ nonce ≠ s.n ∧ (send s now nonce).2 = { s with n := nonce, t := now, pd := true } := by
  unfold send at h ⊢
  by_cases a : inb now = false
  · rw [if_pos a] at h; cases h
  rw [if_neg a] at h ⊢
  by_cases b : nonce = 0
  · rw [if_pos b] at h; cases h
  rw [if_neg b] at h ⊢
  by_cases c : nonce = s.n
  · rw [if_pos c] at h; cases h
  rw [if_neg c]
  exact ⟨by simpa using a, b, c, rfl⟩
theorem send_err (s : S) (now nonce : Int) (h : (send s now nonce).1 ≠ 0) : (send s now nonce).2 = s := by
  unfold send at h ⊢
  by_cases a : inb now = false
  · rw [if_pos a]
  rw [if_neg a] at h ⊢
  by_cases b : nonce = 0
  · rw [if_pos b]
  rw [if_neg b] at h ⊢
  by_cases c : nonce = s.n
  · rw [if_pos c]
  rw [if_neg c] at h
  exact absurd rfl h
theorem sent_0 (s : S) (now nonce : Int) (h : (send s now nonce).1 = 0) : sent s now nonce = .tuple #[.agg (req31 s.ver nonce), .int .i64 0] := by unfold sent; rw [if_pos h, h]
theorem sent_err (s : S) (now nonce : Int) (h : (send s now nonce).1 ≠ 0) : sent s now nonce = .tuple #[.agg zero31, .int .i64 (send s now nonce).1] := by unfold sent; rw [if_neg h]
/-- What Send returns, in one form. -/
theorem sent_form (s : S) (now nonce : Int) : ∃ a1 a2 a12 : Int, sent s now nonce = .tuple #[.agg #[.int .i64 0, .int .i64 a1, .int .i64 a2, .int .i64 0, .int .i64 0, .int .i64 0, .int .u32 0, .int .u32 0, .int .u32 0, .int .u64 0, .int .u64 0, .int .u64 0, .int .u64 a12], .int .i64 (send s now nonce).1] ∧
    ((send s now nonce).1 = 0 → a1 = s.ver ∧ a2 = 3 ∧ a12 = nonce) ∧ ((send s now nonce).1 ≠ 0 → a1 = 0 ∧ a2 = 0 ∧ a12 = 0) := by
  by_cases h : (send s now nonce).1 = 0
  · exact ⟨s.ver, 3, nonce, by rw [sent_0 s now nonce h, h]; rfl, fun _ => ⟨rfl, rfl, rfl⟩, fun e => absurd h e⟩
  · exact ⟨0, 0, 0, sent_err s now nonce h, fun e => absurd e h, fun _ => ⟨rfl, rfl, rfl⟩⟩
theorem send_ver (s : S) (now nonce : Int) : (send s now nonce).2.ver = s.ver := by
  by_cases h : (send s now nonce).1 = 0
  · rw [(send_0 s now nonce h).2.2.2]
  · rw [send_err s now nonce h]
end Go.Proofs.Ytohjmfjdopffkaa.As
