/- What the printed functions Text and Parse of the layer 'stamp' and of its reference are, and that they are inverse to each other. -/
import Derived.Test.YtdpdpljbmncmeaaStFns
import Derived.Lib.Bytes
namespace Go.Proofs.Ytdpdpljbmncmeaa.St
set_option linter.unusedVariables false
set_option linter.unusedSimpArgs false
open Go Go.RowKit Go.Proofs.Ytdpdpljbmncmeaa.PSt Go.Proofs.Ytdpdpljbmncmeaa.Math Go.Proofs.Ytdpdpljbmncmeaa.Fx Go.Proofs.YtdpdpljbmncmeaaW.PrintWords Go.Proofs.YtdpdpljbmncmeaaW.PrintLast Go.Proofs.YtdpdpljbmncmeaaW.PrintMore

/-- A hexadecimal digit's sign. -/
def hx (d : Int) : Int := if d < 10 then 48 + d else 87 + d
/-- The value of a sign. -/
def hv (c : Int) : Option Int := if 48 ≤ c ∧ c ≤ 57 then some (c - 48) else if 97 ≤ c ∧ c ≤ 102 then some (c - 87) else none
theorem hv_hx (d : Int) (h0 : 0 ≤ d) (h1 : d < 16) : hv (hx d) = some d := by
  unfold hv hx
  by_cases h : d < 10
  · rw [if_pos h, if_pos (by omega)]; congr 1; omega
  · rw [if_neg h, if_neg (by omega), if_pos (by omega)]; congr 1; omega
theorem hx_hv (c d : Int) (h : hv c = some d) : c = hx d ∧ 0 ≤ d ∧ d < 16 := by
  unfold hv at h; unfold hx
  by_cases h1 : 48 ≤ c ∧ c ≤ 57
  · rw [if_pos h1] at h; have := Option.some.inj h; rw [if_pos (by omega)]; omega
  · rw [if_neg h1] at h
    by_cases h2 : 97 ≤ c ∧ c ≤ 102
    · rw [if_pos h2] at h; have := Option.some.inj h; rw [if_neg (by omega)]; omega
    · rw [if_neg h2] at h; cases h
/-- Sixteen, so often. -/
def pw (m : Nat) : Int := ((16 ^ m : Nat) : Int)
theorem pw_pos (m : Nat) : 0 < pw m := by unfold pw; have := Nat.pow_pos (n := m) (show 0 < 16 by omega); omega
theorem pw_succ (m : Nat) : pw (m + 1) = pw m * 16 := by unfold pw; rw [Nat.pow_succ]; omega
theorem div_pw (n : Int) (m : Nat) : n / pw (m + 1) = n / pw m / 16 := by rw [pw_succ, Int.ediv_ediv_of_nonneg (Int.le_of_lt (pw_pos m))]
/-- The sign behind which m signs stand. -/
def ch (n : Int) (m : Nat) : Int := if m = 8 then 46 else if m < 8 then hx (n / pw m % 16) else hx (n / pw (m - 1) % 16)
/-- The last M signs. -/
def tl : Nat → Int → List Int
  | 0, _ => []
  | m + 1, n => ch n m :: tl m n
theorem tl_len (M : Nat) (n : Int) : (tl M n).length = M := by induction M with
  | zero => rfl
  | succ m ih => simp [tl, ih]
theorem tl_get (M : Nat) (n : Int) : ∀ j, j < M → (tl M n)[j]? = some (ch n (M - 1 - j)) := by
  induction M with
  | zero => intro j h; omega
  | succ m ih =>
    intro j hj
    cases j with
    | zero => rfl
    | succ j => simp only [tl, List.getElem?_cons_succ]; rw [ih j (by omega)]; congr 2; omega
theorem hx_b (d : Int) (h0 : 0 ≤ d) (h1 : d < 16) : 0 ≤ hx d ∧ hx d < 256 := by unfold hx; split <;> omega
theorem mod16 (x : Int) : 0 ≤ x % 16 ∧ x % 16 < 16 := by omega
theorem ch_b (n : Int) (m : Nat) : 0 ≤ ch n m ∧ ch n m < 256 := by
  unfold ch; split
  · omega
  · split <;> exact hx_b _ (mod16 _).1 (mod16 _).2

theorem and15 (z : Int) (h0 : 0 ≤ z) (h1 : z ≤ 18446744073709551615) : bits .and .u64 z 15 = z % 16 := by
  obtain ⟨a, rfl⟩ := Int.eq_ofNat_of_zero_le h0
  have h := bits_and_u64_nat a 15 (by omega) (by omega)
  have e : a &&& 15 = a % 16 := Nat.and_two_pow_sub_one_eq_mod a 4
  rw [e] at h
  exact h
theorem bt_dig (d : Int) (h0 : 0 ≤ d) (h1 : d < 16) : bt (⟨#[48, 49, 50, 51, 52, 53, 54, 55, 56, 57, 97, 98, 99, 100, 101, 102]⟩ : ByteArray) d = hx d := by
  have : d = 0 ∨ d = 1 ∨ d = 2 ∨ d = 3 ∨ d = 4 ∨ d = 5 ∨ d = 6 ∨ d = 7 ∨ d = 8 ∨ d = 9 ∨ d = 10 ∨ d = 11 ∨ d = 12 ∨ d = 13 ∨ d = 14 ∨ d = 15 := by omega
  rcases this with h | h | h | h | h | h | h | h | h | h | h | h | h | h | h | h <;> (subst h; rfl)
/-- The digit that a round takes. -/
theorem pick (n i : Int) (m : Nat) (n0 : 0 ≤ n) (n1 : n ≤ 18446744073709551615) (i0 : 0 ≤ i) (hi : i + m = 15) :
    wrap64 (60 - wrap64 (4 * i)) = 60 - 4 * i ∧ 0 ≤ 60 - 4 * i ∧ bits .and .u64 (shr .u64 n (60 - 4 * i)) 15 = n / pw m % 16 := by
  have e1 : wrap64 (60 - wrap64 (4 * i)) = 60 - 4 * i := by rw [iw_in (4 * i) (by omega) (by omega), iw_in _ (by omega) (by omega)]
  refine ⟨e1, by omega, ?_⟩
  have e2 : (2 : Int) ^ (60 - 4 * i).toNat = pw m := by
    have : (60 - 4 * i).toNat = 4 * m := by omega
    rw [this, Int.pow_mul]; unfold pw; simp
  rw [shr64 _ _ (by omega), e2]
  have p := pw_pos m
  have b0 : 0 ≤ n / pw m := Int.ediv_nonneg n0 (by omega)
  have b1 : n / pw m ≤ n := Int.ediv_le_self _ n0
  exact and15 _ b0 (by omega)
theorem text_l0 (n : Int) (n0 : 0 ≤ n) (n1 : n ≤ 18446744073709551615) (d : Nat) : ∀ (k : Nat) (xs : List Int) (i : Int), i = 16 - (d : Int) → d ≤ 16 → d + 1 ≤ k → xs.length + 2 * d ≤ 100 →
    stamp_Text.l0 k n xs i = some (strOfNums (xs ++ tl (if 8 ≤ d then d + 1 else d) n)) := by
  induction d with
  | zero =>
    intro k xs i hi hd hk hl
    obtain ⟨k, rfl⟩ : ∃ m, k = m + 1 := ⟨k - 1, by omega⟩
    simp only [stamp_Text.l0]
    rw [if_neg (by omega), if_neg (by omega)]
    simp [tl]
  | succ d ih =>
    intro k xs i hi hd hk hl
    obtain ⟨k, rfl⟩ : ∃ m, k = m + 1 := ⟨k - 1, by omega⟩
    obtain ⟨p1, p2, p3⟩ := pick n i d n0 n1 (by omega) (by omega)
    have m0 := (mod16 (n / pw d)).1
    have m1 := (mod16 (n / pw d)).2
    simp only [stamp_Text.l0]
    rw [if_pos (by omega), p1, p3, iw_in (i + 1) (by omega) (by omega), bt_dig _ m0 m1, if_pos p2, if_pos m0, if_pos m1]
    by_cases h8 : i = 8
    · have hd7 : d = 7 := by omega
      subst hd7
      rw [if_pos h8, if_pos (by omega)]
      simp only [Option.bind_some]
      rw [if_pos p2, if_pos m0, if_pos m1, if_pos (by simp; omega), ih k _ (i + 1) (by omega) (by omega) (by omega) (by simp; omega), if_neg (by omega), if_pos (by omega)]
      simp [tl, ch]
    · rw [if_neg h8, if_pos (by omega), ih k _ (i + 1) (by omega) (by omega) (by omega) (by simp; omega)]
      by_cases h9 : 8 ≤ d
      · rw [if_pos h9, if_pos (by omega)]
        have e : ch n (d + 1) = hx (n / pw d % 16) := by unfold ch; rw [if_neg (by omega), if_neg (by omega)]; rfl
        simp [tl, e]
      · rw [if_neg h9, if_neg (by omega)]
        have e : ch n d = hx (n / pw d % 16) := by unfold ch; rw [if_neg (by omega), if_pos (by omega)]
        simp [tl, e]
/-- The text of a timestamp. -/
def tx (n : Int) : ByteArray := strOfNums (tl 17 n)
theorem text_f (k : Nat) (n : Int) (n0 : 0 ≤ n) (n1 : n ≤ 18446744073709551615) (hk : 17 ≤ k) : stamp_Text.f k n = some (tx n) := by
  unfold stamp_Text.f
  rw [text_l0 n n0 n1 16 k [] 0 (by omega) (by omega) (by omega) (by simp)]; rfl
theorem rdigit_f (d : Int) (h0 : 0 ≤ d) (h1 : d < 16) : timesyncref03_digit.f (wrap64 d) = some (hx d) := by
  unfold timesyncref03_digit.f hx
  rw [iw_in d (by omega) (by omega)]
  by_cases h : d < 10
  · rw [if_pos h, if_pos h, iw_in _ (by omega) (by omega)]; congr 1; omega
  · rw [if_neg h, if_neg h, iw_in (97 + d) (by omega) (by omega), iw_in _ (by omega) (by omega)]; congr 1; omega
theorem rtext_l0 (n : Int) (n0 : 0 ≤ n) (n1 : n ≤ 18446744073709551615) (d : Nat) : ∀ (k : Nat) (xs : List Int) (i : Int), i = 16 - (d : Int) → d ≤ 16 → d + 1 ≤ k → xs.length + 2 * d ≤ 100 →
    timesyncref03_Text.l0 k n xs i = some (strOfNums (xs ++ tl (if 8 ≤ d then d + 1 else d) n)) := by
  induction d with
  | zero =>
    intro k xs i hi hd hk hl
    obtain ⟨k, rfl⟩ : ∃ m, k = m + 1 := ⟨k - 1, by omega⟩
    simp only [timesyncref03_Text.l0]
    rw [if_neg (by omega), if_neg (by omega)]
    simp [tl]
  | succ d ih =>
    intro k xs i hi hd hk hl
    obtain ⟨k, rfl⟩ : ∃ m, k = m + 1 := ⟨k - 1, by omega⟩
    obtain ⟨p1, p2, p3⟩ := pick n i d n0 n1 (by omega) (by omega)
    have m0 := (mod16 (n / pw d)).1
    have m1 := (mod16 (n / pw d)).2
    simp only [timesyncref03_Text.l0]
    rw [if_pos (by omega), p1, p3, iw_in (i + 1) (by omega) (by omega), rdigit_f _ m0 m1, if_pos p2]
    by_cases h8 : i = 8
    · have hd7 : d = 7 := by omega
      subst hd7
      rw [if_pos h8, if_pos (by omega)]
      simp only [Option.bind_some]
      rw [if_pos p2, if_pos (by simp; omega), ih k _ (i + 1) (by omega) (by omega) (by omega) (by simp; omega), if_neg (by omega), if_pos (by omega)]
      simp [tl, ch]
    · simp only [Option.bind_some]
      rw [if_neg h8, if_pos (by omega), ih k _ (i + 1) (by omega) (by omega) (by omega) (by simp; omega)]
      by_cases h9 : 8 ≤ d
      · rw [if_pos h9, if_pos (by omega)]
        have e : ch n (d + 1) = hx (n / pw d % 16) := by unfold ch; rw [if_neg (by omega), if_neg (by omega)]; rfl
        simp [tl, e]
      · rw [if_neg h9, if_neg (by omega)]
        have e : ch n d = hx (n / pw d % 16) := by unfold ch; rw [if_neg (by omega), if_pos (by omega)]
        simp [tl, e]
theorem rtext_f (k : Nat) (n : Int) (n0 : 0 ≤ n) (n1 : n ≤ 18446744073709551615) (hk : 17 ≤ k) : timesyncref03_Text.f k n = some (tx n) := by
  unfold timesyncref03_Text.f
  rw [rtext_l0 n n0 n1 16 k [] 0 (by omega) (by omega) (by omega) (by simp)]; rfl

/-- Reading, from the sign behind which M - 1 signs stand; b the signs by their places. -/
def pz (b : Int → Int) : Nat → Int → Option Int
  | 0, n => some n
  | m + 1, n => if m = 8 then (if b 8 = 46 then pz b m n else none) else match hv (b (16 - m)) with
    | some d => pz b m ((n * 16 + d) % 18446744073709551616)
    | none => none
def out (o : Option Int) : Int × Int := match o with
  | some v => (v, 0)
  | none => (0, 19)
theorem digit_f (k : Nat) (c : Int) (h0 : 0 ≤ c) (h1 : c ≤ 255) (hk : 1 ≤ k) : stamp_digit.f k c = some (match hv c with | some d => (d, true) | none => (0, false)) := by
  obtain ⟨k, rfl⟩ : ∃ m, k = m + 1 := ⟨k - 1, by omega⟩
  unfold stamp_digit.f hv
  by_cases a : c ≥ 48
  · rw [if_pos a]
    by_cases b : c ≤ 57
    · rw [show decide (c ≤ 57) = true from decide_eq_true b, if_pos ⟨a, b⟩]
      simp only [stamp_digit.j0, if_true]; congr 2; omega
    · rw [show decide (c ≤ 57) = false from decide_eq_false b, if_neg (by omega)]
      simp only [stamp_digit.j0, Bool.false_eq_true, if_false]
      by_cases d : c ≥ 97
      · rw [if_pos d]
        by_cases e : c ≤ 102
        · rw [if_pos e, if_pos ⟨d, e⟩]; congr 2; omega
        · rw [if_neg e, if_neg (by omega)]
      · rw [if_neg d, if_neg (by omega)]
  · rw [if_neg a, if_neg (by omega), if_neg (by omega)]
    simp only [stamp_digit.j0, Bool.false_eq_true, if_false]
    rw [if_neg (by omega)]
theorem orD (n d : Int) (n0 : 0 ≤ n) (n1 : n ≤ 18446744073709551615) (d0 : 0 ≤ d) (d1 : d < 16) : bits .or .u64 (IntKind.u64.wrap (n * 16)) d = (n * 16 + d) % 18446744073709551616 := by
  rw [or_add _ _ 4 (by rw [uw]; omega) (by rw [uw]; omega) d0 (by rw [uw]; omega) (by omega) (by rw [uw]; omega), uw]; omega
theorem parse_l0 (s : ByteArray) (hs : s.size = 17) (M : Nat) : ∀ (k : Nat) (n i : Int), M ≤ 17 → i = 17 - (M : Int) → M + 2 ≤ k → 0 ≤ n → n ≤ 18446744073709551615 → stamp_Parse.l0 k s n 17 i = some (out (pz (bt s) M n)) := by
  induction M with
  | zero =>
    intro k n i hM hi hk n0 n1
    obtain ⟨k, rfl⟩ : ∃ m, k = m + 1 := ⟨k - 1, by omega⟩
    simp only [stamp_Parse.l0]
    rw [if_neg (by omega)]; rfl
  | succ m ih =>
    intro k n i hM hi hk n0 n1
    obtain ⟨k, rfl⟩ : ∃ m, k = m + 1 := ⟨k - 1, by omega⟩
    have hb := bt_range s i
    simp only [stamp_Parse.l0, pz]
    rw [if_pos (show i < 17 by omega), iw_in (i + 1) (by omega) (by omega)]
    by_cases h8 : i = 8
    · rw [if_pos h8, if_pos (show 0 ≤ i by omega), if_pos (show i < (s.size : Int) by omega), if_pos (show m = 8 by omega), h8]
      by_cases hd : bt s 8 = 46
      · rw [if_pos hd, if_pos hd]; exact ih k n (8 + 1) (by omega) (by omega) (by omega) n0 n1
      · rw [if_neg hd, if_neg hd]; rfl
    · rw [if_neg h8, if_pos (show 0 ≤ i by omega), if_pos (show i < (s.size : Int) by omega), if_neg (show ¬ m = 8 by omega), digit_f k _ hb.1 hb.2 (by omega), show (16 - (m : Int)) = i by omega]
      cases hv' : hv (bt s i) with
      | none => simp [out]
      | some d =>
        obtain ⟨_, d0, d1⟩ := hx_hv _ _ hv'
        simp only [Option.bind_some, if_true]
        rw [orD n d n0 n1 d0 d1]
        exact ih k _ (i + 1) (by omega) (by omega) (by omega) (by omega) (by omega)
/-- What Parse is. -/
def pa (s : ByteArray) : Int × Int := if s.size = 17 then out (pz (bt s) 17 0) else (0, 19)
theorem parse_f (k : Nat) (s : ByteArray) (hk : 20 ≤ k) : stamp_Parse.f k s = some (pa s) := by
  unfold stamp_Parse.f pa
  by_cases h : s.size = 17
  · rw [if_pos (show (s.size : Int) = 17 by omega), if_pos h, show (s.size : Int) = 17 by omega]
    exact parse_l0 s h 17 k 0 0 (by omega) (by omega) (by omega) (by omega) (by omega)
  · rw [if_neg (show ¬ (s.size : Int) = 17 by omega), if_neg h]
theorem pz_nodot (b : Int → Int) (hb : b 8 ≠ 46) (M : Nat) : ∀ n, 9 ≤ M → pz b M n = none := by
  induction M with
  | zero => intro n h; omega
  | succ m ih =>
    intro n h
    simp only [pz]
    by_cases h8 : m = 8
    · rw [if_pos h8, if_neg hb]
    · rw [if_neg h8]
      cases hv (b (16 - (m : Int))) with
      | none => rfl
      | some d => exact ih _ (by omega)
theorem rparse_l0 (s : ByteArray) (hs : s.size = 17) (hd : bt s 8 = 46) (M : Nat) : ∀ (k : Nat) (n i : Int), M ≤ 17 → i = 17 - (M : Int) → 2 * M + 2 ≤ k → 0 ≤ n → n ≤ 18446744073709551615 → timesyncref03_Parse.l0 k s n i = some (out (pz (bt s) M n)) := by
  induction M with
  | zero =>
    intro k n i hM hi hk n0 n1
    obtain ⟨k, rfl⟩ : ∃ m, k = m + 1 := ⟨k - 1, by omega⟩
    simp only [timesyncref03_Parse.l0]
    rw [if_neg (by omega)]; rfl
  | succ m ih =>
    intro k n i hM hi hk n0 n1
    obtain ⟨k, rfl⟩ : ∃ m, k = m + 2 := ⟨k - 2, by omega⟩
    have hb := bt_range s i
    have hk2 : k + 2 = (k + 1) + 1 := rfl
    rw [hk2]
    simp only [timesyncref03_Parse.l0, pz]
    rw [if_pos (by omega), if_pos (by omega), if_pos (show i < (s.size : Int) by omega), iw_in (i + 1) (by omega) (by omega)]
    by_cases h8 : i = 8
    · rw [if_pos h8, if_pos (show m = 8 by omega), if_pos hd]
      exact ih (k + 1) n (i + 1) (by omega) (by omega) (by omega) n0 n1
    · rw [if_neg h8, if_neg (show ¬ m = 8 by omega), show (16 - (m : Int)) = i by omega]
      generalize bt s i = c at *
      unfold hv
      have yes : 48 ≤ c ∧ c ≤ 57 → timesyncref03_Parse.j2 (k + 1) s n i c true = some (out (pz (bt s) m ((n * 16 + (c - 48)) % 18446744073709551616))) := by
        intro hc
        simp only [timesyncref03_Parse.j2, if_true]
        have e : IntKind.u64.wrap (IntKind.u64.wrap (n * 16) + (c - 48) % 256) = (n * 16 + (c - 48)) % 18446744073709551616 := by simp only [uw]; omega
        rw [e, iw_in (i + 1) (by omega) (by omega)]
        exact ih k _ (i + 1) (by omega) (by omega) (by omega) (by omega) (by omega)
      have no : ¬ (48 ≤ c ∧ c ≤ 57) → timesyncref03_Parse.j2 (k + 1) s n i c false = some (out (match (if 97 ≤ c ∧ c ≤ 102 then some (c - 87) else none : Option Int) with | some d => pz (bt s) m ((n * 16 + d) % 18446744073709551616) | none => none)) := by
        intro hc
        simp only [timesyncref03_Parse.j2, Bool.false_eq_true, if_false]
        by_cases a : c ≥ 97
        · rw [if_pos a]
          by_cases b : c ≤ 102
          · rw [if_pos b, if_pos ⟨a, b⟩]
            have e : IntKind.u64.wrap (IntKind.u64.wrap (IntKind.u64.wrap (n * 16) + (c - 97) % 256) + 10) = (n * 16 + (c - 87)) % 18446744073709551616 := by simp only [uw]; omega
            rw [e, iw_in (i + 1) (by omega) (by omega)]
            exact ih k _ (i + 1) (by omega) (by omega) (by omega) (by omega) (by omega)
          · rw [if_neg b, if_neg (by omega)]; rfl
        · rw [if_neg a, if_neg (by omega)]; rfl
      by_cases a : c ≥ 48
      · rw [if_pos a]
        by_cases b : c ≤ 57
        · rw [show decide (c ≤ 57) = true from decide_eq_true b, if_pos ⟨a, b⟩]; exact yes ⟨a, b⟩
        · rw [show decide (c ≤ 57) = false from decide_eq_false b, if_neg (show ¬ (48 ≤ c ∧ c ≤ 57) by omega)]; exact no (by omega)
      · rw [if_neg a, if_neg (show ¬ (48 ≤ c ∧ c ≤ 57) by omega)]; exact no (by omega)
theorem rparse_f (k : Nat) (s : ByteArray) (hk : 40 ≤ k) : timesyncref03_Parse.f k s = some (pa s) := by
  obtain ⟨k, rfl⟩ : ∃ m, k = m + 1 := ⟨k - 1, by omega⟩
  unfold timesyncref03_Parse.f pa
  by_cases h : s.size = 17
  · rw [if_pos (show (s.size : Int) = 17 by omega), if_pos h, if_pos (by omega)]
    by_cases hd : bt s 8 = 46
    · rw [show (bt s 8 != 46) = false from by simp [hd]]
      simp only [timesyncref03_Parse.j0, Bool.false_eq_true, if_false]
      exact rparse_l0 s h hd 17 k 0 0 (by omega) (by omega) (by omega) (by omega) (by omega)
    · rw [show (bt s 8 != 46) = true from by simp [hd]]
      simp only [timesyncref03_Parse.j0, if_true]
      rw [pz_nodot _ hd 17 0 (by omega)]; rfl
  · rw [if_neg (show ¬ (s.size : Int) = 17 by omega), if_neg h]
    simp only [timesyncref03_Parse.j0, if_true]

/-- How many digits stand among the last M signs. -/
def dr (M : Nat) : Nat := if 9 ≤ M then M - 1 else M
theorem pz_tx (b : Int → Int) (n : Int) (n0 : 0 ≤ n) (n1 : n ≤ 18446744073709551615) (M : Nat) (hM : M ≤ 17) (hb : ∀ m, m < M → b (16 - (m : Int)) = ch n m) : pz b M (n / pw (dr M)) = some n := by
  induction M with
  | zero => simp [pz, dr, pw]
  | succ m ih =>
    have ih' := ih (by omega) (fun j hj => hb j (by omega))
    have h := hb m (by omega)
    simp only [pz]
    by_cases h8 : m = 8
    · subst h8
      rw [if_pos rfl]
      have h46 : b 8 = 46 := by simpa [ch] using h
      rw [if_pos h46]
      exact ih'
    · rw [if_neg h8, h]
      have e : ch n m = hx (n / pw (dr m) % 16) ∧ dr (m + 1) = dr m + 1 := by
        unfold ch dr
        rw [if_neg h8]
        by_cases h9 : m < 8
        · rw [if_pos h9, if_neg (by omega), if_neg (by omega)]; exact ⟨rfl, rfl⟩
        · rw [if_neg h9, if_pos (by omega), if_pos (by omega)]; exact ⟨rfl, by omega⟩
      rw [e.1, hv_hx _ (mod16 _).1 (mod16 _).2, e.2, div_pw]
      have p := pw_pos (dr m)
      have b0 : 0 ≤ n / pw (dr m) := Int.ediv_nonneg n0 (by omega)
      have b1 : n / pw (dr m) ≤ n := Int.ediv_le_self _ n0
      have e2 : (n / pw (dr m) / 16 * 16 + n / pw (dr m) % 16) % 18446744073709551616 = n / pw (dr m) := by omega
      simp only [e2]
      exact ih'
theorem pw_le {a b : Nat} (h : a ≤ b) : pw a ≤ pw b := by unfold pw; have := Nat.pow_le_pow_right (show 0 < 16 by omega) h; omega
theorem pz_back (b : Int → Int) (v : Int) (M : Nat) : ∀ acc, M ≤ 17 → 0 ≤ acc → acc < pw (16 - dr M) → pz b M acc = some v → (∀ m, m < M → b (16 - (m : Int)) = ch v m) ∧ v / pw (dr M) = acc ∧ 0 ≤ v ∧ v ≤ 18446744073709551615 := by
  induction M with
  | zero =>
    intro acc hM a0 a1 h
    have : acc = v := by simpa [pz] using h
    subst this
    have e : pw (16 - dr 0) = 18446744073709551616 := rfl
    exact ⟨fun m hm => by omega, by simp [dr, pw], a0, by omega⟩
  | succ m ih =>
    intro acc hM a0 a1 h
    simp only [pz] at h
    by_cases h8 : m = 8
    · subst h8
      rw [if_pos rfl] at h
      by_cases hd : b 8 = 46
      · rw [if_pos hd] at h
        obtain ⟨i1, i2, i3⟩ := ih acc (by omega) a0 a1 h
        refine ⟨fun j hj => ?_, i2, i3⟩
        by_cases hj8 : j = 8
        · subst hj8; simpa [ch] using hd
        · exact i1 j (by omega)
      · rw [if_neg hd] at h; cases h
    · rw [if_neg h8] at h
      cases hv' : hv (b (16 - (m : Int))) with
      | none => rw [hv'] at h; cases h
      | some d =>
        rw [hv'] at h
        simp only at h
        obtain ⟨hc, d0, d1⟩ := hx_hv _ _ hv'
        have e : ch v m = hx (v / pw (dr m) % 16) ∧ dr (m + 1) = dr m + 1 ∧ dr m < 16 := by
          unfold ch dr
          rw [if_neg h8]
          by_cases h9 : m < 8
          · rw [if_pos h9, if_neg (by omega), if_neg (by omega)]; exact ⟨rfl, rfl, by omega⟩
          · rw [if_neg h9, if_pos (by omega), if_pos (by omega)]; exact ⟨rfl, by omega, by omega⟩
        rw [e.2.1] at a1
        have hp : pw (16 - dr m) = pw (16 - (dr m + 1)) * 16 := by rw [← pw_succ]; congr 1; omega
        have hle : pw (16 - dr m) ≤ pw 16 := pw_le (by omega)
        have h16 : pw 16 = 18446744073709551616 := rfl
        have em : (acc * 16 + d) % 18446744073709551616 = acc * 16 + d := Int.emod_eq_of_lt (by omega) (by omega)
        rw [em] at h
        obtain ⟨i1, i2, i3⟩ := ih (acc * 16 + d) (by omega) (by omega) (by omega) h
        refine ⟨fun j hj => ?_, ?_, i3⟩
        · by_cases hjm : j = m
          · subst hjm; rw [e.1, i2, hc]; congr 1; omega
          · exact i1 j (by omega)
        · rw [e.2.1, div_pw, i2]; omega

theorem bt_str (xs : List Int) (j : Nat) (c : Int) (h : xs[j]? = some c) (h0 : 0 ≤ c) (h1 : c < 256) : bt (strOfNums xs) j = c := by
  obtain ⟨hl, he⟩ := List.getElem?_eq_some_iff.1 h
  have hs : (j : Int).toNat < (strOfNums xs).size := by rw [strOfNums_size]; simpa using hl
  unfold bt
  rw [dif_pos hs]
  have e : (strOfNums xs)[(j : Int).toNat]'hs = UInt8.ofNat c.toNat := by
    show (strOfNums xs).data[(j : Int).toNat]'hs = _
    simp [strOfNums, he]
  rw [e]
  simp only [UInt8.toNat_ofNat']
  omega
theorem tx_size (n : Int) : (tx n).size = 17 := by unfold tx; rw [strOfNums_size, tl_len]
theorem tx_bt (n : Int) (m : Nat) (h : m < 17) : bt (tx n) (16 - (m : Int)) = ch n m := by
  have e : (16 - (m : Int)) = ((16 - m : Nat) : Int) := by omega
  rw [e]
  have := tl_get 17 n (16 - m) (by omega)
  rw [show 17 - 1 - (16 - m) = m by omega] at this
  exact bt_str _ _ _ this (ch_b n m).1 (ch_b n m).2
theorem pa_tx (n : Int) (n0 : 0 ≤ n) (n1 : n ≤ 18446744073709551615) : pa (tx n) = (n, 0) := by
  unfold pa
  rw [if_pos (tx_size n)]
  have h := pz_tx (bt (tx n)) n n0 n1 17 (by omega) (fun m hm => tx_bt n m hm)
  have e : n / pw (dr 17) = 0 := by
    have : pw (dr 17) = 18446744073709551616 := rfl
    rw [this]; omega
  rw [e] at h
  rw [h]; rfl
theorem pa_back (s : ByteArray) (h : (pa s).2 = 0) : 0 ≤ (pa s).1 ∧ (pa s).1 ≤ 18446744073709551615 ∧ (tx (pa s).1).toList = s.toList := by
  unfold pa at h ⊢
  by_cases hs : s.size = 17
  · rw [if_pos hs] at h ⊢
    cases hp : pz (bt s) 17 0 with
    | none => rw [hp] at h; simp [out] at h
    | some v =>
      simp only [out]
      obtain ⟨b1, _, b3, b4⟩ := pz_back (bt s) v 17 0 (by omega) (by omega) (pw_pos _) hp
      refine ⟨b3, b4, ?_⟩
      have hdata : (tx v).data.toList = s.data.toList := by
        apply List.ext_getElem?
        intro i
        by_cases hi : i < 17
        · have h1 := b1 (16 - i) (by omega)
          have h2 := tx_bt v (16 - i) (by omega)
          rw [show (16 - ((16 - i : Nat) : Int)) = (i : Int) by omega] at h1 h2
          have hlt : (i : Int).toNat < s.size := by omega
          have hlt2 : (i : Int).toNat < (tx v).size := by rw [tx_size]; omega
          rw [← h1] at h2
          unfold bt at h2
          rw [dif_pos hlt, dif_pos hlt2] at h2
          have h3 : (tx v).data[i]'(by have h_ : (tx v).data.size = 17 := tx_size v; omega) = s.data[i]'(by have h_ : s.data.size = 17 := hs; omega) := by
            apply UInt8.toNat_inj.1
            have : ((tx v)[(i : Int).toNat]'hlt2).toNat = (s[(i : Int).toNat]'hlt).toNat := by omega
            exact this
          simp only [Array.getElem?_toList]
          rw [Array.getElem?_eq_getElem (by have h_ : (tx v).data.size = 17 := tx_size v; omega), Array.getElem?_eq_getElem (by have h_ : s.data.size = 17 := hs; omega), h3]
        · have l1 : (tx v).data.toList.length = 17 := by rw [Array.length_toList]; exact tx_size v
          have l2 : s.data.toList.length = 17 := by rw [Array.length_toList]; exact hs
          rw [List.getElem?_eq_none (by omega), List.getElem?_eq_none (by omega)]
      rw [Lib.toList_data, Lib.toList_data, hdata]
  · rw [if_neg hs] at h; simp at h
end Go.Proofs.Ytdpdpljbmncmeaa.St
