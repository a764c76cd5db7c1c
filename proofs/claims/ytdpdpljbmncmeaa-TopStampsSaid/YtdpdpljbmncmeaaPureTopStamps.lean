/- For every instant and pivot in the guards: the instant survives its way over the wire, as an NTP timestamp in eight bytes and as a PTP timestamp in ten. -/
import Derived.Test.YtdpdpljbmncmeaaTsStamp
namespace Go.Proofs.Ytdpdpljbmncmeaa.Pure
open Go Go.RowKit Go.Proofs.Ytdpdpljbmncmeaa.PTs Go.Proofs.Ytdpdpljbmncmeaa.FxTs Go.Proofs.Ytdpdpljbmncmeaa.StTs Go.Proofs.Ytdpdpljbmncmeaa.Math Go.Proofs.YtdpdpljbmncmeaaW.PrintWords Go.Proofs.YtdpdpljbmncmeaaW.PrintLast Go.Proofs.YtdpdpljbmncmeaaW.PrintMore
set_option linter.unusedVariables false
set_option linter.unusedSimpArgs false

/-- 256, so often. -/
def pb (m : Nat) : Int := ((256 ^ m : Nat) : Int)
theorem pb_pos (m : Nat) : 0 < pb m := by unfold pb; have := Nat.pow_pos (n := m) (show 0 < 256 by omega); omega
theorem div_pb (n : Int) (m : Nat) : n / pb (m + 1) = n / pb m / 256 := by
  have : pb (m + 1) = pb m * 256 := by unfold pb; rw [Nat.pow_succ]; omega
  rw [this, Int.ediv_ediv_of_nonneg (Int.le_of_lt (pb_pos m))]
/-- The last m bytes of a number, the first one first. -/
def be : Nat → Int → List Int
  | 0, _ => []
  | m + 1, n => (n / pb m % 256) :: be m n
theorem be_len (m : Nat) (n : Int) : (be m n).length = m := by induction m with
  | zero => rfl
  | succ m ih => simp [be, ih]
theorem be_b (m : Nat) (n : Int) : ∀ x ∈ be m n, 0 ≤ x ∧ x < 256 := by
  induction m with
  | zero => intro x hx; simp [be] at hx
  | succ m ih =>
    intro x hx
    rcases List.mem_cons.1 hx with rfl | hx
    · omega
    · exact ih x hx
theorem right_f (n : Nat) (h1 : 1 ≤ n) (h8 : n ≤ 8) : wire_right.f (n : Int) = some true := by unfold wire_right.f; rw [if_pos (by omega), decide_eq_true (by omega)]
theorem app_l0 (l : List Int) (n : Int) (n0 : 0 ≤ n) (n1 : n ≤ 18446744073709551615) (size : Nat) (hs : size ≤ 8) (hl : l.length ≤ 100) (d : Nat) : ∀ (k : Nat) (P : List Int), P.length + d = size → d + 1 ≤ k →
    wire_Append.l0 k l n size ((l ++ P) ++ List.replicate d 0) size (P.length : Int) = some ((l ++ P) ++ be d n, 0) := by
  induction d with
  | zero =>
    intro k P hp hk
    obtain ⟨k, rfl⟩ : ∃ m, k = m + 1 := ⟨k - 1, by omega⟩
    simp only [wire_Append.l0]
    rw [if_neg (by omega)]; simp [be]
  | succ d ih =>
    intro k P hp hk
    obtain ⟨k, rfl⟩ : ∃ m, k = m + 1 := ⟨k - 1, by omega⟩
    simp only [wire_Append.l0]
    have e1 : wrap64 (8 * wrap64 (wrap64 ((size : Int) - 1) - (P.length : Int))) = 8 * (d : Int) := by
      rw [iw_in ((size : Int) - 1) (by omega) (by omega), iw_in ((size : Int) - 1 - (P.length : Int)) (by omega) (by omega), iw_in _ (by omega) (by omega)]; omega
    have e2 : wrap64 ((l.length : Int) + (P.length : Int)) = ((l.length + P.length : Nat) : Int) := by rw [iw_in _ (by omega) (by omega)]; omega
    have e3 : shr .u64 n (8 * (d : Int)) % 256 = n / pb d % 256 := by
      rw [shr64 _ _ (by omega)]
      have : (2 : Int) ^ (8 * (d : Int)).toNat = pb d := by
        have h : (8 * (d : Int)).toNat = 8 * d := by omega
        rw [h, Int.pow_mul]; unfold pb; simp
      rw [this]
    rw [if_pos (by omega), e1, e2, if_pos (by omega), if_pos (by omega), if_pos (by simp; omega), e3, iw_in ((P.length : Int) + 1) (by omega) (by omega), Int.toNat_natCast]
    have e4 : ((l ++ P) ++ List.replicate (d + 1) (0 : Int)).set (l.length + P.length) (n / pb d % 256) = (l ++ (P ++ [n / pb d % 256])) ++ List.replicate d 0 := by
      rw [List.set_append_right _ _ (by simp)]
      simp [List.replicate_succ]
    have e5 : ((P.length : Int) + 1) = ((P ++ [n / pb d % 256]).length : Int) := by simp
    rw [e4, e5, ih k (P ++ [n / pb d % 256]) (by simp; omega) (by omega)]
    simp [be]
theorem append_f (k : Nat) (l : List Int) (n : Int) (size : Nat) (n0 : 0 ≤ n) (n1 : n ≤ 18446744073709551615) (h1 : 1 ≤ size) (h8 : size ≤ 8) (hn : n < pb size) (hl : l.length ≤ 100) (hk : 12 ≤ k) : wire_Append.f k l n size = some (l ++ be size n, 0) := by
  obtain ⟨k, rfl⟩ : ∃ m, k = m + 1 := ⟨k - 1, by omega⟩
  have j0 : wire_Append.j0 (k + 1) l n size false = some (l ++ be size n, 0) := by
    simp only [wire_Append.j0, Bool.false_eq_true, if_false]
    have e2 : wrap64 ((l.length : Int) + (size : Int)) = ((l.length + size : Nat) : Int) := by rw [iw_in _ (by omega) (by omega)]; omega
    rw [e2, if_pos (by omega), Int.toNat_natCast, if_pos (by omega)]
    simp only [Option.bind_some]
    have e3 : l.take (min l.length (List.replicate (l.length + size) (0 : Int)).length) ++ (List.replicate (l.length + size) (0 : Int)).drop (min l.length (List.replicate (l.length + size) (0 : Int)).length) = (l ++ []) ++ List.replicate size 0 := by
      rw [List.length_replicate, Nat.min_eq_left (by omega), List.take_length, List.drop_replicate]; simp
    rw [e3]
    have := app_l0 l n n0 n1 size h8 hl size k [] (by simp) (by omega)
    simp only [List.append_nil, List.length_nil] at this ⊢
    exact this
  unfold wire_Append.f
  rw [right_f size h1 h8]
  simp only [Option.bind_some, if_true]
  by_cases h : (size : Int) < 8
  · rw [if_pos h, iw_in (8 * (size : Int)) (by omega) (by omega), if_pos (by omega), shr64 _ _ (by omega)]
    have : (2 : Int) ^ (8 * (size : Int)).toNat = pb size := by
      have h : (8 * (size : Int)).toNat = 8 * size := by omega
      rw [h, Int.pow_mul]; unfold pb; simp
    rw [this, Int.ediv_eq_zero_of_lt n0 hn]
    exact j0
  · rw [if_neg h]; exact j0
/-- What bytes say, behind what was read. -/
def va : Int → List Int → Int
  | a, [] => a
  | a, b :: r => va ((a * 256 + b) % 18446744073709551616) r
theorem va_be (n : Int) (n0 : 0 ≤ n) (n1 : n ≤ 18446744073709551615) (m : Nat) : va (n / pb m) (be m n) = n := by
  induction m with
  | zero => simp [va, be, pb]
  | succ m ih =>
    simp only [va, be]
    have p := pb_pos m
    have b0 : 0 ≤ n / pb m := Int.ediv_nonneg n0 (by omega)
    have b1 : n / pb m ≤ n := Int.ediv_le_self _ n0
    rw [div_pb]
    have e : (n / pb m / 256 * 256 + n / pb m % 256) % 18446744073709551616 = n / pb m := by omega
    rw [e, ih]
theorem get_l0 (l : List Int) (hb : ∀ x ∈ l, 0 ≤ x ∧ x < 256) (hl : l.length ≤ 8) (r : List Int) : ∀ (k i : Nat) (a : Int), l.drop i = r → i ≤ l.length → r.length + 1 ≤ k → 0 ≤ a → a ≤ 18446744073709551615 → wire_Get.l0 k l 0 a (l.length : Int) i = some (va a r, 0) := by
  induction r with
  | nil =>
    intro k i a hd hi hk a0 a1
    obtain ⟨k, rfl⟩ : ∃ m, k = m + 1 := ⟨k - 1, by simp at hk; omega⟩
    have : l.length ≤ i := by simpa using hd
    simp only [wire_Get.l0]
    rw [if_neg (by omega)]; rfl
  | cons x r ih =>
    intro k i a hd hi hk a0 a1
    simp at hk
    obtain ⟨k, rfl⟩ : ∃ m, k = m + 1 := ⟨k - 1, by omega⟩
    have hlen : l.length = i + 1 + r.length := by have := congrArg List.length hd; simp at this; omega
    have hn : l.drop (i + 1) = r := by rw [← List.drop_drop, hd]; rfl
    have hx : l[i]? = some x := by have := congrArg (fun z => z[0]?) hd; simpa using this
    have hrd : rd l (i : Int) = x := by unfold rd; simp [List.getD, hx]
    have hxb := hb x (List.mem_of_getElem? hx)
    simp only [wire_Get.l0, va]
    rw [if_pos (by omega), Int.zero_add, iw_in (i : Int) (by omega) (by omega), if_pos (by omega), if_pos (by omega), hrd, iw_in ((i : Int) + 1) (by omega) (by omega)]
    have e : bits .or .u64 (IntKind.u64.wrap (a * 256)) (IntKind.u64.wrap x) = (a * 256 + x) % 18446744073709551616 := by
      rw [uw_in x (by omega) (by omega), or_add _ _ 8 (by rw [uw]; omega) (by rw [uw]; omega) (by omega) (by rw [uw]; omega) (by omega) (by rw [uw]; omega), uw]; omega
    rw [e, show ((i : Int) + 1) = ((i + 1 : Nat) : Int) by omega]
    exact ih k (i + 1) _ hn (by omega) (by omega) (by omega) (by omega)
theorem get_be (k : Nat) (n : Int) (m : Nat) (n0 : 0 ≤ n) (n1 : n ≤ 18446744073709551615) (h1 : 1 ≤ m) (h8 : m ≤ 8) (hn : n < pb m) (hk : 12 ≤ k) : wire_Get.f k (be m n) 0 m = some (n, 0) := by
  obtain ⟨k, rfl⟩ : ∃ m, k = m + 1 := ⟨k - 1, by omega⟩
  unfold wire_Get.f
  rw [right_f m h1 h8]
  simp only [Option.bind_some, if_true]
  have hl := be_len m n
  rw [if_neg (by omega), hl, iw_in ((m : Int) - m) (by omega) (by omega), show decide ((0 : Int) > (m : Int) - m) = false from decide_eq_false (by omega)]
  simp only [wire_Get.j0, Bool.false_eq_true, if_false]
  have h := get_l0 (be m n) (be_b m n) (by omega) (be m n) k 0 0 rfl (by omega) (by omega) (by omega) (by omega)
  rw [hl] at h
  have hv := va_be n n0 n1 m
  rw [Int.ediv_eq_zero_of_lt n0 hn] at hv
  rw [hv] at h
  exact h
theorem pb4 : pb 4 = 4294967296 := rfl
theorem pb6 : pb 6 = 281474976710656 := rfl
theorem pb8 : pb 8 = 18446744073709551616 := rfl
/-- The PTP timestamp's way. -/
theorem ptp (k : Nat) (t s m : Int) (hk : 90 ≤ k) (t0 : -9223372036854775808 ≤ t) (t1 : t ≤ 4000000000000000000) (s0 : 0 ≤ s) (s1 : s ≤ 281474976710655) (s2 : s ≤ 5791011200) (m0 : 0 ≤ m) (m1 : m < 1000000000) (hts : (s + 2208988800) * 1000000000 + m = t) :
    ptime_Encode.f (k + 1) s m = some (be 6 s ++ be 4 m, 0) ∧ (be 6 s ++ be 4 m).length = 10 ∧ ptime_Decode.f (k + 1) (be 6 s ++ be 4 m) = some (s, m, 0) ∧ ptime_Time.f (k + 1) s m = some (t, 0) := by
  have hck : ptime_Check.f s m = some 0 := by unfold ptime_Check.f; rw [if_neg (by omega), if_neg (by omega), if_neg (by omega), if_neg (by omega)]
  have hap6 := append_f (k + 1) [] s 6 s0 (by omega) (by omega) (by omega) (by rw [pb6]; omega) (by simp) (by omega)
  rw [show ((6 : Nat) : Int) = 6 from rfl, List.nil_append] at hap6
  have hap4 := append_f (k + 1) (be 6 s) m 4 m0 (by omega) (by omega) (by omega) (by rw [pb4]; omega) (by rw [be_len]; omega) (by omega)
  rw [show ((4 : Nat) : Int) = 4 from rfl] at hap4
  have henc : ptime_Encode.f (k + 1) s m = some (be 6 s ++ be 4 m, 0) := by
    unfold ptime_Encode.f
    rw [hck]; simp only [Option.bind_some, if_true]
    rw [uw_in s s0 (by omega), uw_in m m0 (by omega), hap6]
    simp only [Option.bind_some]
    rw [hap4]; rfl
  have hlen : (be 6 s ++ be 4 m).length = 10 := by rw [List.length_append, be_len, be_len]
  have hg6 := get_be (k + 1) s 6 s0 (by omega) (by omega) (by omega) (by rw [pb6]; omega) (by omega)
  have hg4 := get_be (k + 1) m 4 m0 (by omega) (by omega) (by omega) (by rw [pb4]; omega) (by omega)
  rw [show ((6 : Nat) : Int) = 6 from rfl] at hg6
  rw [show ((4 : Nat) : Int) = 4 from rfl] at hg4
  have t6 : (be 6 s ++ be 4 m).take 6 = be 6 s := by rw [List.take_append_of_le_length (by rw [be_len]; omega), List.take_of_length_le (by rw [be_len]; omega)]
  have d6 : ((be 6 s ++ be 4 m).drop 6).take 4 = be 4 m := by rw [List.drop_append_of_le_length (by rw [be_len]; omega), List.drop_of_length_le (by rw [be_len]; omega), List.nil_append, List.take_of_length_le (by rw [be_len]; omega)]
  have hdec : ptime_Decode.f (k + 1) (be 6 s ++ be 4 m) = some (s, m, 0) := by
    unfold ptime_Decode.f
    rw [hlen, if_neg (by omega), if_neg (by omega), t6, d6, hg6]
    simp only [Option.bind_some]
    rw [hg4]
    simp only [Option.bind_some]
    rw [iw_in s (by omega) (by omega), iw_in m (by omega) (by omega), hck]; rfl
  have htm : ptime_Time.f (k + 1) s m = some (t, 0) := by
    unfold ptime_Time.f
    rw [hck]; simp only [Option.bind_some, if_true]
    rw [decide_eq_false (by omega)]
    simp only [ptime_Time.j0, Bool.false_eq_true, if_false]
    rw [iw_in (s + 2208988800) (by omega) (by omega), iw_in ((s + 2208988800) * 1000000000) (by omega) (by omega), hts, iw_in t t0 (by omega), if_neg (by omega)]
  exact ⟨henc, hlen, hdec, htm⟩
theorem TopStamps : timesynctop_TopStamps.Pure := by
  intro t a ht ha
  obtain ⟨t0, t1⟩ := wf64 ht
  obtain ⟨a0, a1⟩ := wf64 ha
  refine ⟨100 + 3, ?_⟩
  have hk : (90 : Nat) ≤ 100 := by omega
  generalize (100 : Nat) = k at *
  have hk3 : k + 3 = (k + 2) + 1 := rfl
  have hk2 : k + 2 = (k + 1) + 1 := rfl
  have out : timesynctop_TopStamps.j0 (k + 3) t a true = some true := by rw [hk3]; simp only [timesynctop_TopStamps.j0, if_true]
  unfold timesynctop_TopStamps.f
  by_cases c1 : t < -4000000000000000000
  · rw [if_pos c1]; exact out
  · rw [if_neg c1]
    by_cases c2 : t > 4000000000000000000
    · rw [if_pos c2]; exact out
    · rw [if_neg c2]
      by_cases c3 : a < -2000000000000000000
      · rw [if_pos c3]; exact out
      · rw [if_neg c3]
        by_cases c4 : a > 2000000000000000000
        · rw [decide_eq_true c4]; exact out
        · rw [decide_eq_false c4, hk3]
          simp only [timesynctop_TopStamps.j0, Bool.false_eq_true, if_false]
          rw [of_f (k + 2) t t0 t1 (by omega)]
          simp only [Option.bind_some]
          have w0 : 0 ≤ un t % 18446744073709551616 := by omega
          have w1 : un t % 18446744073709551616 ≤ 18446744073709551615 := by omega
          have hap := append_f (k + 2) [] (un t % 18446744073709551616) 8 w0 w1 (by omega) (by omega) (by rw [pb8]; omega) (by simp) (by omega)
          have hge := get_be (k + 2) (un t % 18446744073709551616) 8 w0 w1 (by omega) (by omega) (by rw [pb8]; omega) (by omega)
          rw [show ((8 : Nat) : Int) = 8 from rfl] at hap hge
          rw [List.nil_append] at hap
          rw [hap]
          simp only [Option.bind_some]
          rw [hge]
          simp only [Option.bind_some]
          rw [iw_in (t + a) (by omega) (by omega), time_f (k + 2) _ (t + a) w0 w1 (by omega) (by omega) (by omega), tm_back t (t + a) (by omega) (by omega) (by omega) (by omega) (by omega) (by omega)]
          simp only [Option.bind_some, if_true]
          rw [be_len, if_pos (by omega)]
          simp only [bne_self_eq_false]
          rw [hk2]
          simp only [timesynctop_TopStamps.j1, Bool.false_eq_true, if_false]
          unfold ptime_Of.f
          by_cases c5 : t < 2208988800000000000
          · rw [if_pos c5]; simp only [Option.bind_some]; rw [if_pos c5]; rfl
          · rw [if_neg c5]; simp only [Option.bind_some]; rw [if_neg c5]
            rw [Int.tdiv_eq_ediv_of_nonneg (by omega), Int.tmod_eq_emod_of_nonneg (by omega), iw_in (t / 1000000000) (by omega) (by omega), iw_in (t / 1000000000 - 2208988800) (by omega) (by omega)]
            have s0 : 0 ≤ t / 1000000000 - 2208988800 := by omega
            have s1 : t / 1000000000 - 2208988800 ≤ 281474976710655 := by omega
            have m0 : 0 ≤ t % 1000000000 := by omega
            have m1 : t % 1000000000 < 1000000000 := by omega
            have hts : (t / 1000000000 - 2208988800 + 2208988800) * 1000000000 + t % 1000000000 = t := by omega
            have s2 : t / 1000000000 - 2208988800 ≤ 5791011200 := by omega
            generalize t / 1000000000 - 2208988800 = s at *
            generalize t % 1000000000 = m at *
            obtain ⟨henc, hlen, hdec, htm⟩ := ptp k t s m hk t0 (by omega) s0 s1 s2 m0 m1 hts
            generalize (be 6 s ++ be 4 m) = X at henc hlen hdec
            rw [henc, Option.bind_some, hdec, Option.bind_some, htm, Option.bind_some, hlen]
            clear henc hdec htm hlen hap hge out
            have e1 : (s == s && m == m) = true := by rw [beq_self_eq_true, beq_self_eq_true]; rfl
            show (if True then if (0 : Int) = 0 then if (0 : Int) = 0 then if (0 : Int) = 0 then if ((10 : Nat) : Int) = 10 then if (s == s && m == m) = true then some (t == t) else some false else some false else some false else some false else some false else some false) = some true
            rw [if_pos trivial, if_pos rfl, if_pos rfl, if_pos rfl, if_pos (show ((10 : Nat) : Int) = 10 from rfl), if_pos e1, beq_self_eq_true]
end Go.Proofs.Ytdpdpljbmncmeaa.Pure
