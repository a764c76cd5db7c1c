/- What the printed functions of the layers 'osc' and 'drift' are that the law TopDrift reaches, and the plain inequality behind the law. -/
import Derived.Test.YtdpdpljbmncmeaaDrFixed
namespace Go.Proofs.Ytdpdpljbmncmeaa.Dr
set_option linter.unusedVariables false
set_option linter.unusedSimpArgs false
open Go Go.RowKit Go.Proofs.Ytdpdpljbmncmeaa.PDr Go.Proofs.Ytdpdpljbmncmeaa.Math Go.Proofs.Ytdpdpljbmncmeaa.FxDr Go.Proofs.YtdpdpljbmncmeaaW.PrintWords Go.Proofs.YtdpdpljbmncmeaaW.PrintLast Go.Proofs.YtdpdpljbmncmeaaW.PrintMore

theorem in_f (a lo hi : Int) : osc_in.f a lo hi = some (decide (lo ≤ a ∧ a ≤ hi)) := by
  unfold osc_in.f
  by_cases h : a ≥ lo
  · rw [if_pos h]; congr 1; apply decide_eq_decide.2; omega
  · rw [if_neg h]; congr 1; symm; apply decide_eq_false; omega

/-- The segments from the index i on are right. -/
def Good (l : List S83) (i : Int) : Prop := ∀ j : Int, i ≤ j → j < l.length → 0 ≤ (rd_T83 l j).f0 ∧ (rd_T83 l j).f0 ≤ 1125899906842624 ∧ -500000 ≤ (rd_T83 l j).f1 ∧ (rd_T83 l j).f1 ≤ 500000 ∧ (j = 0 → (rd_T83 l j).f0 = 0) ∧ (0 < j → (rd_T83 l (j - 1)).f0 < (rd_T83 l j).f0)
theorem check_l0 (l : List S83) (hl : l.length ≤ 16) (ph : Int) (d : Nat) : ∀ (k : Nat) (i : Int), 0 ≤ i → (l.length : Int) - i = d → 3 * d + 1 ≤ k → ∃ e, osc_Check.l0 k l (l.length : Int) i ph l = some e ∧ (e = 0 → Good l i) := by
  induction d with
  | zero =>
    intro k i h0 hi hk
    obtain ⟨k, rfl⟩ : ∃ m, k = m + 1 := ⟨k - 1, by omega⟩
    refine ⟨0, ?_, fun _ j h1 h2 => by omega⟩
    simp only [osc_Check.l0]; rw [if_neg (by omega)]
  | succ d ih =>
    intro k i h0 hi hk
    obtain ⟨k, rfl⟩ : ∃ m, k = m + 3 := ⟨k - 3, by omega⟩
    obtain ⟨e, he, hg⟩ := ih k (i + 1) (by omega) (by omega) (by omega)
    have hk3 : k + 3 = (k + 2) + 1 := rfl
    have hk2 : k + 2 = (k + 1) + 1 := rfl
    rw [hk3]; simp only [osc_Check.l0]
    rw [if_pos (by omega), if_pos h0, if_pos (by omega), in_f, in_f]
    simp only [Option.bind_some, decide_eq_true_iff]
    generalize hs : rd_T83 l i = s at *
    -- the end of a round
    have j2 : ∀ b, b = true ∨ (b = false ∧ 0 ≤ s.f0 ∧ s.f0 ≤ 1125899906842624 ∧ -500000 ≤ s.f1 ∧ s.f1 ≤ 500000 ∧ (i = 0 → s.f0 = 0)) → ∃ e, osc_Check.j2 (k + 1) i l (l.length : Int) i b ph l s.f0 s.f1 = some e ∧ (e = 0 → Good l i) := by
      intro b hb
      simp only [osc_Check.j2]
      rcases hb with rfl | ⟨rfl, b1, b2, b3, b4, b5⟩
      · exact ⟨7, by simp, fun h => by omega⟩
      · simp only [Bool.false_eq_true, if_false]
        rw [iw_in (i + 1) (by omega) (by omega)]
        have step : ¬ (0 < i ∧ s.f0 ≤ (rd_T83 l (i - 1)).f0) → e = 0 → Good l i := by
          intro hn h0e j hj1 hj2
          by_cases hji : j = i
          · subst hji; rw [hs]; exact ⟨b1, b2, b3, b4, b5, fun hp => by omega⟩
          · exact hg h0e j (by omega) hj2
        by_cases hp : i > 0
        · rw [if_pos hp, iw_in (i - 1) (by omega) (by omega), if_pos (by omega), if_pos (by omega)]
          by_cases hle : s.f0 ≤ (rd_T83 l (i - 1)).f0
          · rw [if_pos hle]; exact ⟨12, rfl, fun h => by omega⟩
          · rw [if_neg hle]; exact ⟨e, he, step (by omega)⟩
        · rw [if_neg hp]; exact ⟨e, he, step (by omega)⟩
    have j1 : ∀ b, b = true ∨ (b = false ∧ 0 ≤ s.f0 ∧ s.f0 ≤ 1125899906842624 ∧ -500000 ≤ s.f1 ∧ s.f1 ≤ 500000) → ∃ e, osc_Check.j1 (k + 2) i l (l.length : Int) i b ph l s.f0 s.f1 = some e ∧ (e = 0 → Good l i) := by
      intro b hb
      rw [hk2]; simp only [osc_Check.j1]
      rcases hb with rfl | ⟨rfl, b1, b2, b3, b4⟩
      · exact ⟨3, by simp, fun h => by omega⟩
      · simp only [Bool.false_eq_true, if_false]
        by_cases hz : i = 0
        · rw [if_pos hz]
          by_cases h00 : s.f0 = 0
          · exact j2 _ (.inr ⟨by simp [h00], b1, b2, b3, b4, fun _ => h00⟩)
          · exact j2 _ (.inl (by simp [h00]))
        · rw [if_neg hz]; exact j2 _ (.inr ⟨rfl, b1, b2, b3, b4, fun h => absurd h hz⟩)
    by_cases c1 : 0 ≤ s.f0 ∧ s.f0 ≤ 1125899906842624
    · rw [if_pos c1]
      by_cases c2 : -500000 ≤ s.f1 ∧ s.f1 ≤ 500000
      · exact j1 _ (.inr ⟨by simp [c2], c1.1, c1.2, c2.1, c2.2⟩)
      · exact j1 _ (.inl (by simp; omega))
    · rw [if_neg c1]; exact j1 _ (.inl rfl)
theorem check_f (k : Nat) (ph : Int) (l : List S83) (hk : 60 ≤ k) : ∃ e, osc_Check.f k ph l = some e ∧ (e = 0 → -1125899906842624 ≤ ph ∧ ph ≤ 1125899906842624 ∧ l ≠ [] ∧ l.length ≤ 16 ∧ Good l 0) := by
  unfold osc_Check.f
  by_cases h0 : (l.length : Int) = 0
  · rw [if_pos h0]; exact ⟨14, rfl, fun h => by omega⟩
  · rw [if_neg h0]
    by_cases h1 : (l.length : Int) > 16
    · rw [if_pos h1]; exact ⟨6, rfl, fun h => by omega⟩
    · rw [if_neg h1, in_f]
      simp only [Option.bind_some, decide_eq_true_iff]
      by_cases h2 : -1125899906842624 ≤ ph ∧ ph ≤ 1125899906842624
      · rw [if_pos h2]
        obtain ⟨e, he, hg⟩ := check_l0 l (by omega) ph l.length k 0 (by omega) (by omega) (by omega)
        exact ⟨e, he, fun h => ⟨h2.1, h2.2, by intro hn; rw [hn] at h0; simp at h0, by omega, hg h⟩⟩
      · rw [if_neg h2]; exact ⟨3, rfl, fun h => by omega⟩

/-- The segments with their ends. -/
def sp : List S83 → List S97
  | [] => []
  | x :: r => ⟨x, match r with | [] => 1125899906842624 | y :: _ => y.f0⟩ :: sp r
theorem rd_drop (l : List S83) (i : Nat) (x : S83) (r : List S83) (h : l.drop i = x :: r) : rd_T83 l i = x := by
  unfold rd_T83
  have : l[i]? = some x := by
    have := congrArg (fun z => z[0]?) h
    simpa using this
  simp [List.getD, this]
theorem drop_next {α : Type} (l : List α) (i : Nat) (x : α) (r : List α) (h : l.drop i = x :: r) : l.drop (i + 1) = r := by
  rw [← List.drop_drop, h]; rfl
theorem drop_len {α : Type} (l : List α) (i : Nat) (x : α) (r : List α) (h : l.drop i = x :: r) : l.length = i + 1 + r.length := by
  have := congrArg List.length h
  simp at this; omega
theorem spans_l0 (l : List S83) (hl : l.length ≤ 16) (ph : Int) (r : List S83) : ∀ (k : Nat) (i : Nat) (xs : List S97), l.drop i = r → r.length + 1 ≤ k → xs.length + r.length ≤ 100 →
    osc_spans.l0 k xs l (l.length : Int) i ph l = some (xs ++ sp r) := by
  induction r with
  | nil =>
    intro k i xs hd hk hx
    obtain ⟨k, rfl⟩ : ∃ m, k = m + 1 := ⟨k - 1, by simp at hk; omega⟩
    simp only [osc_spans.l0]
    have : l.length ≤ i := by simpa using hd
    rw [if_neg (by omega)]; simp [sp]
  | cons x r ih =>
    intro k i xs hd hk hx
    simp at hk hx
    obtain ⟨k, rfl⟩ : ∃ m, k = m + 1 := ⟨k - 1, by omega⟩
    have hlen := drop_len l i x r hd
    have hn := drop_next l i x r hd
    have hx0 := rd_drop l i x r hd
    simp only [osc_spans.l0]
    rw [if_pos (by omega), if_pos (by omega), if_pos (by omega), iw_in ((i : Int) + 1) (by omega) (by omega), hx0]
    have e1 : ((i : Int) + 1) = ((i + 1 : Nat) : Int) := by omega
    cases r with
    | nil =>
      simp at hlen
      rw [if_neg (by omega), if_pos (by omega), e1, ih k (i + 1) _ hn (by simp; omega) (by simp; omega)]
      simp [sp]
    | cons y r' =>
      simp at hlen
      have hy := rd_drop l (i + 1) y r' hn
      rw [if_pos (by omega), if_pos (by omega), if_pos (by omega), e1, hy, ih k (i + 1) _ hn (by simp at hk ⊢; omega) (by simp at hx ⊢; omega)]
      simp [sp]
theorem spans_f (k : Nat) (ph : Int) (l : List S83) (hl : l.length ≤ 16) (hk : 20 ≤ k) : osc_spans.f k ph l = some (sp l) := by
  unfold osc_spans.f
  have := spans_l0 l hl ph l k 0 [] rfl (by omega) (by simp; omega)
  simpa using this

/-- How long a segment counts before t. -/
def cnt (x : S97) (t : Int) : Int := mx 0 (mn t x.f1 - x.f0.f0)
def wh (t : Int) : List S97 → Int
  | [] => 0
  | x :: r => x.f0.f1 * (cnt x t / 1000000000) + wh t r
def re (t : Int) : List S97 → Int
  | [] => 0
  | x :: r => x.f0.f1 * (cnt x t % 1000000000) + re t r
/-- The gain. -/
def gn (t : Int) : List S97 → Int
  | [] => 0
  | x :: r => x.f0.f1 * cnt x t + gn t r
theorem gn_eq (t : Int) (L : List S97) : gn t L = 1000000000 * wh t L + re t L := by
  induction L with
  | nil => rfl
  | cons x r ih =>
    simp only [gn, wh, re]
    rw [ih]
    have e := Int.mul_ediv_add_emod (cnt x t) 1000000000
    generalize cnt x t / 1000000000 = q at *
    generalize cnt x t % 1000000000 = m at *
    rw [← e]; grind
/-- A right list of spans: from a to the end. -/
def Part : Int → List S97 → Prop
  | a, [] => a = 1125899906842624
  | a, x :: r => x.f0.f0 = a ∧ 0 ≤ a ∧ a ≤ x.f1 ∧ x.f1 ≤ 1125899906842624 ∧ -500000 ≤ x.f0.f1 ∧ x.f0.f1 ≤ 500000 ∧ Part x.f1 r
theorem cnt_b (x : S97) (t a : Int) (h : x.f0.f0 = a) (h0 : 0 ≤ a) (h1 : a ≤ x.f1) (h2 : x.f1 ≤ 1125899906842624) (t0 : 0 ≤ t) (t1 : t ≤ 1125899906842624) : 0 ≤ cnt x t ∧ cnt x t ≤ 1125899906842624 := by
  unfold cnt mx mn; split <;> split <;> omega
theorem mul_b (p n N : Int) (h0 : -500000 ≤ p) (h1 : p ≤ 500000) (n0 : 0 ≤ n) (n1 : n ≤ N) : -(500000 * N) ≤ p * n ∧ p * n ≤ 500000 * N := by
  have a := Int.mul_le_mul_of_nonneg_right h1 n0
  have b := Int.mul_le_mul_of_nonneg_right h0 n0
  omega
theorem rd97_drop (l : List S97) (i : Nat) (x : S97) (r : List S97) (h : l.drop i = x :: r) : rd_T97 l i = x := by
  unfold rd_T97
  have : l[i]? = some x := by
    have := congrArg (fun z => z[0]?) h
    simpa using this
  simp [List.getD, this]
theorem read_end (ph t w q : Int) (t0 : 0 ≤ t) (t1 : t ≤ 1125899906842624) (p0 : -1125899906842624 ≤ ph) (p1 : ph ≤ 1125899906842624) (a1 : -100000000000000000 ≤ q) (a2 : q ≤ 100000000000000000) (a3 : -100000000000000000 ≤ w) (a4 : w ≤ 100000000000000000) :
    ((fixed_Floor.f q 1000000000).bind fun bt112 => (some (wrap64 ((wrap64 ((wrap64 (ph + t)) + w)) + bt112.1)))) = some (ph + t + w + q / 1000000000) := by
  rw [floor_f q _ (by omega) (by omega) (by omega) (by omega)]
  unfold md fl
  rw [if_neg (by omega), if_pos (by omega), Int.mul_one, ex_in (by omega)]
  simp only [Option.bind_some]
  rw [iw_in (ph + t) (by omega) (by omega), iw_in (ph + t + w) (by omega) (by omega), iw_in _ (by omega) (by omega)]
theorem read_l0 (t ph : Int) (l : List S83) (L : List S97) (hL : L.length ≤ 16) (t0 : 0 ≤ t) (t1 : t ≤ 1125899906842624) (p0 : -1125899906842624 ≤ ph) (p1 : ph ≤ 1125899906842624) (R : List S97) : ∀ (k i : Nat) (a w q : Int), L.drop i = R → i ≤ L.length → Part a R → R.length + 1 ≤ k →
    -(600000000000 * (i : Int)) ≤ w → w ≤ 600000000000 * (i : Int) → -(500000000000000 * (i : Int)) ≤ q → q ≤ 500000000000000 * (i : Int) → osc_read.l0 k t w q L (L.length : Int) i ph l = some (ph + t + (w + wh t R) + (q + re t R) / 1000000000) := by
  induction R with
  | nil =>
    intro k i a w q hd hiL hp hk w0 w1 q0 q1
    obtain ⟨k, rfl⟩ : ∃ m, k = m + 1 := ⟨k - 1, by simp at hk; omega⟩
    have hi : L.length ≤ i := by simpa using hd
    simp only [osc_read.l0, wh, re]
    rw [if_neg (by omega), read_end ph t w q t0 t1 p0 p1 (by omega) (by omega) (by omega) (by omega)]
    simp
  | cons x R ih =>
    intro k i a w q hd hiL hp hk w0 w1 q0 q1
    simp at hk
    obtain ⟨k, rfl⟩ : ∃ m, k = m + 1 := ⟨k - 1, by omega⟩
    have hlen := drop_len L i x R hd
    have hn := drop_next L i x R hd
    have hx := rd97_drop L i x R hd
    obtain ⟨h1, h2, h3, h4, h5, h6, h7⟩ := hp
    simp only [osc_read.l0, wh, re]
    rw [if_pos (by omega), if_pos (by omega), if_pos (by omega), hx]
    have hmn : wrap64 (mn t x.f1 - x.f0.f0) = mn t x.f1 - x.f0.f0 := iw_in _ (by unfold mn; split <;> omega) (by unfold mn; split <;> omega)
    have hc := cnt_b x t a h1 h2 h3 h4 t0 t1
    have hcn : mx 0 (mn t x.f1 - x.f0.f0) = cnt x t := rfl
    rw [hmn, hcn]
    generalize cnt x t = c at *
    have b1 := mul_b x.f0.f1 (c / 1000000000) 1125900 h5 h6 (by omega) (by omega)
    have b2 := mul_b x.f0.f1 (c % 1000000000) 1000000000 h5 h6 (by omega) (by omega)
    rw [iw_in (c / 1000000000) (by omega) (by omega)]
    generalize x.f0.f1 * (c / 1000000000) = u at *
    generalize x.f0.f1 * (c % 1000000000) = v at *
    rw [iw_in u (by omega) (by omega), iw_in v (by omega) (by omega), iw_in (w + u) (by omega) (by omega), iw_in (q + v) (by omega) (by omega), iw_in ((i : Int) + 1) (by omega) (by omega)]
    have e1 : ((i : Int) + 1) = ((i + 1 : Nat) : Int) := by omega
    rw [e1, ih k (i + 1) x.f1 (w + u) (q + v) hn (by omega) h7 (by omega) (by omega) (by omega) (by omega) (by omega)]
    rw [Int.add_assoc w, Int.add_assoc q]
/-- The reading. -/
def rdg (ph : Int) (L : List S97) (t : Int) : Int := ph + t + gn t L / 1000000000
theorem read_f (k : Nat) (t ph : Int) (l : List S83) (L : List S97) (hL : L.length ≤ 16) (hp : Part 0 L) (t0 : 0 ≤ t) (t1 : t ≤ 1125899906842624) (p0 : -1125899906842624 ≤ ph) (p1 : ph ≤ 1125899906842624) (hk : 20 ≤ k) : osc_read.f k ph l L t = some (rdg ph L t) := by
  unfold osc_read.f rdg
  have := read_l0 t ph l L hL t0 t1 p0 p1 L k 0 0 0 0 rfl (by omega) hp (by omega) (by omega) (by omega) (by omega) (by omega)
  have e : gn t L / 1000000000 = wh t L + re t L / 1000000000 := by rw [gn_eq]; omega
  rw [e]
  rw [show ((0 : Nat) : Int) = 0 from rfl] at this
  rw [this]; congr 1; omega
theorem sp_len (l : List S83) : (sp l).length = l.length := by
  induction l with
  | nil => rfl
  | cons x r ih => simp [sp, ih]
theorem part_sp (l : List S83) (hg : Good l 0) (r : List S83) : ∀ (i : Nat) (x : S83), l.drop i = x :: r → Part x.f0 (sp (x :: r)) := by
  induction r with
  | nil =>
    intro i x hd
    have hlen := drop_len l i x [] hd
    have g := hg i (by omega) (by simp at hlen; omega)
    rw [rd_drop l i x [] hd] at g
    exact ⟨rfl, g.1, g.2.1, by simp, g.2.2.1, g.2.2.2.1, rfl⟩
  | cons y r ih =>
    intro i x hd
    have hlen := drop_len l i x _ hd
    have hn := drop_next l i x _ hd
    simp at hlen
    have g := hg i (by omega) (by omega)
    rw [rd_drop l i x _ hd] at g
    have g2 := hg ((i + 1 : Nat) : Int) (by omega) (by omega)
    rw [rd_drop l (i + 1) y r hn] at g2
    have e : (((i + 1 : Nat) : Int) - 1) = (i : Int) := by omega
    rw [e, rd_drop l i x _ hd] at g2
    have hlt := g2.2.2.2.2.2 (by omega)
    exact ⟨rfl, g.1, by simp only []; omega, by simp only []; omega, g.2.2.1, g.2.2.2.1, ih (i + 1) y hn⟩

/-- How long all segments count. -/
def sc (t : Int) : List S97 → Int
  | [] => 0
  | x :: r => cnt x t + sc t r
theorem sc_eq (t : Int) (ht : t ≤ 1125899906842624) (L : List S97) : ∀ a, Part a L → sc t L = mx 0 (t - a) := by
  induction L with
  | nil => intro a h; have : a = 1125899906842624 := h; subst this; unfold sc mx; split <;> omega
  | cons x r ih =>
    intro a h
    obtain ⟨h1, h2, h3, h4, h5, h6, h7⟩ := h
    simp only [sc]; rw [ih _ h7]
    unfold cnt mx mn; split <;> split <;> split <;> (try split) <;> omega
theorem gn_diff (t1 t2 tol : Int) (h12 : t1 ≤ t2) (L : List S97) : ∀ a, Part a L → (∀ x ∈ L, -tol ≤ x.f0.f1 ∧ x.f0.f1 ≤ tol) → -(tol * (sc t2 L - sc t1 L)) ≤ gn t2 L - gn t1 L ∧ gn t2 L - gn t1 L ≤ tol * (sc t2 L - sc t1 L) := by
  induction L with
  | nil => intro a _ _; simp [sc, gn]
  | cons x r ih =>
    intro a h hx
    obtain ⟨h1, h2, h3, h4, h5, h6, h7⟩ := h
    have i := ih _ h7 (fun y hy => hx y (List.mem_cons_of_mem _ hy))
    have hx0 := hx x List.mem_cons_self
    have hm : cnt x t1 ≤ cnt x t2 := by unfold cnt mx mn; split <;> split <;> split <;> (try split) <;> omega
    simp only [sc, gn]
    have m1 := Int.mul_le_mul_of_nonneg_right hx0.2 (show 0 ≤ cnt x t2 - cnt x t1 by omega)
    have m2 := Int.mul_le_mul_of_nonneg_right hx0.1 (show 0 ≤ cnt x t2 - cnt x t1 by omega)
    have e1 : tol * (cnt x t2 + sc t2 r - (cnt x t1 + sc t1 r)) = tol * (cnt x t2 - cnt x t1) + tol * (sc t2 r - sc t1 r) := by rw [← Int.mul_add]; congr 1; omega
    have e2 : x.f0.f1 * (cnt x t2 - cnt x t1) = x.f0.f1 * cnt x t2 - x.f0.f1 * cnt x t1 := Int.mul_sub _ _ _
    rw [e1]
    rw [e2] at m1 m2
    rw [Int.neg_mul] at m2
    generalize tol * (cnt x t2 - cnt x t1) = A at *
    generalize tol * (sc t2 r - sc t1 r) = B at *
    omega
theorem bound_l0 (l : List S83) (hl : l.length ≤ 16) (hg : Good l 0) (r : List S83) : ∀ (k i : Nat) (m : Int), l.drop i = r → r.length + 1 ≤ k → 0 ≤ m → m ≤ 500000 →
    ∃ tol, osc_Bound.l0 k m l (l.length : Int) i = some tol ∧ m ≤ tol ∧ tol ≤ 500000 ∧ ∀ x ∈ r, -tol ≤ x.f1 ∧ x.f1 ≤ tol := by
  induction r with
  | nil =>
    intro k i m hd hk m0 m1
    obtain ⟨k, rfl⟩ : ∃ m, k = m + 1 := ⟨k - 1, by simp at hk; omega⟩
    have hi : l.length ≤ i := by simpa using hd
    simp only [osc_Bound.l0]
    rw [if_neg (by omega)]
    exact ⟨m, rfl, by omega, m1, fun x hx => by simp at hx⟩
  | cons x r ih =>
    intro k i m hd hk m0 m1
    simp at hk
    obtain ⟨k, rfl⟩ : ∃ m, k = m + 1 := ⟨k - 1, by omega⟩
    have hlen := drop_len l i x r hd
    have hn := drop_next l i x r hd
    have hx := rd_drop l i x r hd
    have g := hg i (by omega) (by omega)
    rw [hx] at g
    simp only [osc_Bound.l0]
    rw [if_pos (by omega), if_pos (by omega), if_pos (by omega), hx, iw_in (-x.f1) (by omega) (by omega), iw_in ((i : Int) + 1) (by omega) (by omega)]
    have e1 : ((i : Int) + 1) = ((i + 1 : Nat) : Int) := by omega
    obtain ⟨tol, h1, h2, h3, h4⟩ := ih k (i + 1) (mx (mx m x.f1) (-x.f1)) hn (by omega) (by unfold mx; split <;> split <;> omega) (by unfold mx; split <;> split <;> omega)
    rw [e1]
    refine ⟨tol, h1, ?_, h3, fun y hy => ?_⟩
    · unfold mx at h2; split at h2 <;> split at h2 <;> omega
    · rcases List.mem_cons.1 hy with rfl | hy
      · unfold mx at h2; split at h2 <;> split at h2 <;> omega
      · exact h4 y hy
theorem sp_mem (l : List S83) (tol : Int) (h : ∀ x ∈ l, -tol ≤ x.f1 ∧ x.f1 ≤ tol) : ∀ x ∈ sp l, -tol ≤ x.f0.f1 ∧ x.f0.f1 ≤ tol := by
  induction l with
  | nil => intro x hx; simp [sp] at hx
  | cons y r ih =>
    intro x hx
    simp only [sp] at hx
    rcases List.mem_cons.1 hx with rfl | hx
    · exact h y List.mem_cons_self
    · exact ih (fun z hz => h z (List.mem_cons_of_mem _ hz)) x hx

/-- The bounds of a duration, from a difference of readings. -/
theorem elapsed (raw d D tol : Int) (u0 : 0 ≤ tol) (u1 : tol ≤ 500000) (d0 : 0 ≤ d) (d1 : d ≤ 1125899906842624) (D0 : -(tol * d) ≤ D) (D1 : D ≤ tol * d) (r0 : raw * 1000000000 - 1000000000 < d * 1000000000 + D) (r1 : d * 1000000000 + D < raw * 1000000000 + 1000000000) :
    0 ≤ raw ∧ raw ≤ 2251799813685248 ∧ ∃ a b, fl ((raw - 1) * 1000000000) (1000000000 + tol) = a ∧ fl ((-raw - 1) * 1000000000) (1000000000 - tol) = b ∧ -2 ≤ a ∧ a + 1 ≤ d ∧ b + d ≤ -1 ∧ -5000000000000000 ≤ b := by
  have td : tol * d ≤ 500000 * 1125899906842624 := Int.mul_le_mul u1 d1 d0 (by omega)
  have td2 : tol * d ≤ 500000 * d := Int.mul_le_mul_of_nonneg_right u1 d0
  have td0 : 0 ≤ tol * d := Int.mul_nonneg u0 d0
  have hr0 : 0 ≤ raw := by omega
  have hr1 : raw ≤ 2251799813685248 := by omega
  refine ⟨hr0, hr1, _, _, rfl, rfl, ?_⟩
  unfold fl
  rw [if_pos (by omega), if_pos (by omega)]
  refine ⟨?_, ?_, ?_, ?_⟩
  · apply le_of_mul (by omega); omega
  · have : (raw - 1) * 1000000000 / (1000000000 + tol) < d := by
      apply lt_of_mul (by omega)
      have e : d * (1000000000 + tol) = d * 1000000000 + tol * d := by rw [Int.mul_add, Int.mul_comm d tol]
      omega
    omega
  · have : (-raw - 1) * 1000000000 / (1000000000 - tol) < -d := by
      apply lt_of_mul (by omega)
      have e : -d * (1000000000 - tol) = -(d * 1000000000) + tol * d := by rw [Int.mul_sub, Int.neg_mul, Int.neg_mul, Int.mul_comm d tol]; omega
      omega
    omega
  · apply le_of_mul (by omega); omega
theorem elapsed_f (k : Nat) (raw d D tol : Int) (hk : 20 ≤ k) (u0 : 0 ≤ tol) (u1 : tol ≤ 500000) (d0 : 0 ≤ d) (d1 : d ≤ 1125899906842624) (D0 : -(tol * d) ≤ D) (D1 : D ≤ tol * d) (r0 : raw * 1000000000 - 1000000000 < d * 1000000000 + D) (r1 : d * 1000000000 + D < raw * 1000000000 + 1000000000) :
    ∃ lo hi, drift_Elapsed.f k raw tol = some (lo, hi, 0) ∧ 0 ≤ lo ∧ lo ≤ d ∧ d ≤ hi ∧ hi ≤ 5000000000000000 := by
  obtain ⟨h0, h1, a, b, ha, hb, a0, a1, b0, b1⟩ := elapsed raw d D tol u0 u1 d0 d1 D0 D1 r0 r1
  obtain ⟨k, rfl⟩ : ∃ m, k = m + 1 := ⟨k - 1, by omega⟩
  unfold drift_Elapsed.f
  rw [if_neg (by omega), if_neg (by omega), if_neg (by omega), show decide (tol > 500000) = false from decide_eq_false (by omega)]
  simp only [drift_Elapsed.j0, Bool.false_eq_true, if_false]
  rw [iw_in (raw - 1) (by omega) (by omega), iw_in (1000000000 + tol) (by omega) (by omega), iw_in (-raw) (by omega) (by omega), iw_in (-raw - 1) (by omega) (by omega), iw_in (1000000000 - tol) (by omega) (by omega),
    muldiv_f k _ _ _ (by omega) (by omega) (by omega) (by omega) (by omega) (by omega) (by omega)]
  simp only [Option.bind_some]
  rw [muldiv_f k _ _ _ (by omega) (by omega) (by omega) (by omega) (by omega) (by omega) (by omega)]
  have hm1 : md (raw - 1) 1000000000 (1000000000 + tol) = (a, true) := by unfold md; rw [if_neg (by omega), ha, ex_in (by omega)]
  have hm2 : md (-raw - 1) 1000000000 (1000000000 - tol) = (b, true) := by unfold md; rw [if_neg (by omega), hb, ex_in (by omega)]
  rw [hm1, hm2]
  simp only [Option.bind_some]
  rw [iw_in (a + 1) (by omega) (by omega), iw_in (-b) (by omega) (by omega), iw_in (-b - 1) (by omega) (by omega)]
  exact ⟨_, _, rfl, by unfold mx; split <;> omega, by unfold mx; split <;> omega, by omega, by omega⟩

theorem awake_f (k : Nat) (hk : 70 ≤ k) : timesynctop_awake04.f k = some true := by
  have hg : Good [(⟨0, 1000⟩ : S83)] 0 := by
    intro j h1 h2
    have : j = 0 := by simp at h2; omega
    subst this
    simp [rd_T83]
  have hc : osc_Check.f k 5 [(⟨0, 1000⟩ : S83)] = some 0 := by
    have m : ∀ k, LeO (osc_Check.f k 5 [(⟨0, 1000⟩ : S83)]) (osc_Check.f (k + 1) 5 [(⟨0, 1000⟩ : S83)]) := fun k => osc_Check.mono _ _ k
    exact at_rounds m (show 60 ≤ k by omega) (by decide +kernel)
  unfold timesynctop_awake04.f osc_Read.f
  rw [hc]
  simp only [Option.bind_some, if_true]
  rw [in_f]
  simp only [Option.bind_some, decide_eq_true_iff]
  rw [if_pos (by omega), spans_f k 5 _ (by simp) (by omega)]
  simp only [Option.bind_some]
  have hp := part_sp [(⟨0, 1000⟩ : S83)] hg [] 0 ⟨0, 1000⟩ rfl
  rw [read_f k 2000000 5 _ _ (by simp [sp]) hp (by omega) (by omega) (by omega) (by omega) (by omega)]
  have e : rdg 5 (sp [(⟨0, 1000⟩ : S83)]) 2000000 = 2000007 := by decide +kernel
  rw [e]; rfl

/-- THE LAW, over numbers and lists. -/
theorem drift_law (k : Nat) (hk : 100 ≤ k) (ph : Int) (l : List S83) (t d : Int) (t0 : -9223372036854775808 ≤ t) (t1 : t ≤ 9223372036854775807) (d0 : -9223372036854775808 ≤ d) (d1 : d ≤ 9223372036854775807) : timesynctop_TopDrift.f (k + 1) ph l t d = some true := by
  unfold timesynctop_TopDrift.f
  have hsp : timesynctop_span.f t d = some (decide (0 ≤ t ∧ t ≤ 1125899906842624 ∧ 0 ≤ d ∧ d ≤ 1125899906842624 - t)) := by
    unfold timesynctop_span.f
    by_cases a : t ≥ 0
    · rw [if_pos a]
      by_cases b : t ≤ 1125899906842624
      · rw [if_pos b, iw_in (1125899906842624 - t) (by omega) (by omega)]
        by_cases c : d ≥ 0
        · rw [if_pos c]; congr 1; apply decide_eq_decide.2; omega
        · rw [if_neg c]; congr 1; symm; apply decide_eq_false; omega
      · rw [if_neg b]; congr 1; symm; apply decide_eq_false; omega
    · rw [if_neg a]; congr 1; symm; apply decide_eq_false; omega
  rw [hsp]
  simp only [Option.bind_some, decide_eq_true_iff]
  by_cases hin : 0 ≤ t ∧ t ≤ 1125899906842624 ∧ 0 ≤ d ∧ d ≤ 1125899906842624 - t
  · rw [if_pos hin, iw_in (t + d) (by omega) (by omega)]
    obtain ⟨e, he, hg⟩ := check_f (k + 1) ph l (by omega)
    by_cases h0 : e = 0
    · subst h0
      obtain ⟨p0, p1, hne, hl, hgood⟩ := hg rfl
      have hL : (sp l).length ≤ 16 := by rw [sp_len]; exact hl
      have hpart : Part 0 (sp l) := by
        cases hlc : l with
        | nil => exact absurd hlc hne
        | cons x r =>
          have g := hgood 0 (by omega) (by rw [hlc]; simp)
          have hx : rd_T83 l 0 = x := rd_drop l 0 x r (by rw [hlc]; rfl)
          rw [hx] at g
          have := part_sp l hgood r 0 x (by rw [hlc]; rfl)
          rw [g.2.2.2.2.1 rfl] at this
          exact this
      have rd : ∀ t, 0 ≤ t → t ≤ 1125899906842624 → osc_Read.f (k + 1) ph l t = some (rdg ph (sp l) t, 0) := by
        intro t a b
        unfold osc_Read.f
        rw [he]; simp only [Option.bind_some, if_true]
        rw [in_f]; simp only [Option.bind_some, decide_eq_true_iff]
        rw [if_pos ⟨a, b⟩, spans_f (k + 1) ph l hl (by omega)]
        simp only [Option.bind_some]
        rw [read_f (k + 1) t ph l (sp l) hL hpart a b p0 p1 (by omega)]; rfl
      rw [rd t hin.1 hin.2.1, rd (t + d) (by omega) (by omega), he]
      simp only [Option.bind_some, if_true, bne_self_eq_false]
      simp only [timesynctop_TopDrift.j0, Bool.false_eq_true, if_false, if_true]
      obtain ⟨e', he', hg'⟩ := check_f k ph l (by omega)
      have hee : e' = 0 := by
        have := at_rounds (fun k => osc_Check.mono ph l k) (show k ≤ k + 1 by omega) he'
        rw [he] at this; exact (Option.some.inj this).symm
      subst hee
      obtain ⟨tol, hb, b0, b1, b2⟩ := bound_l0 l hl hgood l k 0 0 rfl (by omega) (by omega) (by omega)
      rw [show ((0 : Nat) : Int) = 0 from rfl] at hb
      have hbound : osc_Bound.f k ph l = some tol := by
        unfold osc_Bound.f
        rw [he']; simp only [Option.bind_some, if_true]
        exact hb
      rw [hbound]
      simp only [Option.bind_some]
      have hs1 := sc_eq t (by omega) (sp l) 0 hpart
      have hs2 := sc_eq (t + d) (by omega) (sp l) 0 hpart
      have hsd : sc (t + d) (sp l) - sc t (sp l) = d := by rw [hs1, hs2]; unfold mx; split <;> split <;> omega
      obtain ⟨g1, g2⟩ := gn_diff t (t + d) tol (by omega) (sp l) 0 hpart (sp_mem l tol b2)
      rw [hsd] at g1 g2
      have hraw : ∃ raw, wrap64 (rdg ph (sp l) (t + d) - rdg ph (sp l) t) = raw ∧ raw * 1000000000 - 1000000000 < d * 1000000000 + (gn (t + d) (sp l) - gn t (sp l)) ∧ d * 1000000000 + (gn (t + d) (sp l) - gn t (sp l)) < raw * 1000000000 + 1000000000 := by
        have td : tol * d ≤ 500000 * 1125899906842624 := Int.mul_le_mul b1 (by omega) (by omega) (by omega)
        refine ⟨d + gn (t + d) (sp l) / 1000000000 - gn t (sp l) / 1000000000, ?_, by omega, by omega⟩
        unfold rdg
        rw [iw_in _ (by omega) (by omega)]; omega
      obtain ⟨raw, hr, r0, r1⟩ := hraw
      rw [hr]
      obtain ⟨lo, hi, hel, l0, l1, l2, l3⟩ := elapsed_f k raw d _ tol (by omega) b0 b1 hin.2.2.1 (by omega) g1 g2 r0 r1
      have hage : drift_Age.f k t t raw tol = some (t + lo, t + hi, 0) := by
        unfold drift_Age.f drift_valid.f drift_Check.f
        rw [if_neg (by omega), if_neg (by omega), if_neg (by omega)]
        simp only [Option.bind_some, if_true]
        rw [hel]
        simp only [Option.bind_some, if_true]
        rw [iw_in (t + lo) (by omega) (by omega), iw_in (t + hi) (by omega) (by omega), if_neg (by omega), if_neg (by omega), if_neg (by omega)]
        simp
      rw [hel, hage]
      simp only [Option.bind_some, if_true]
      rw [if_pos l1, if_pos l2, iw_in (t + d) (by omega) (by omega)]
      unfold drift_Has.f drift_Check.f
      rw [if_neg (by omega), if_neg (by omega), if_neg (by omega)]
      simp only [Option.bind_some, if_true]
      rw [if_pos (by omega), decide_eq_true (by omega)]; rfl
    · have rd : ∀ t, osc_Read.f (k + 1) ph l t = some (0, e) := by
        intro t
        unfold osc_Read.f
        rw [he]; simp only [Option.bind_some]
        rw [if_neg h0]
      rw [rd, rd, he]
      simp only [Option.bind_some, if_true, bne_self_eq_false]
      simp only [timesynctop_TopDrift.j0, Bool.false_eq_true, if_false]
      rw [if_neg h0, awake_f k (by omega)]; rfl
  · rw [if_neg hin]
end Go.Proofs.Ytdpdpljbmncmeaa.Dr
