/- What the functions of headers, kiss codes and instants answer, the program's and the reference's: plain functions of numbers. -/
import Derived.Test.YtohjmfjdopffkaaAsStamp
namespace Go.Proofs.Ytohjmfjdopffkaa.AsP
open Go Go.RowKit Go.Proofs.Ytohjmfjdopffkaa.PAs Go.Proofs.Ytohjmfjdopffkaa.FxAs Go.Proofs.Ytohjmfjdopffkaa.StAs Go.Proofs.Ytohjmfjdopffkaa.Math Go.Proofs.YtohjmfjdopffkaaW.PrintWords Go.Proofs.YtohjmfjdopffkaaW.PrintLast Go.Proofs.YtohjmfjdopffkaaW.PrintMore
set_option linter.unusedVariables false
set_option linter.unusedSimpArgs false

/-- 256, so often. -/
def pb (m : Nat) : Int := ((256 ^ m : Nat) : Int)
theorem pb_pos (m : Nat) : 0 < pb m := by unfold pb; have := Nat.pow_pos (n := m) (show 0 < 256 by omega); omega
theorem div_pb (n : Int) (m : Nat) : n / pb (m + 1) = n / pb m / 256 := by
  have : pb (m + 1) = pb m * 256 := by unfold pb; rw [Nat.pow_succ]; omega
  rw [this, Int.ediv_ediv_of_nonneg (Int.le_of_lt (pb_pos m))]
/-- The last m bytes of a number, the first one first. -/
def be : Nat → Int → List Int
  | 0, _ => []
  | m + 1, n => (n / pb m % 256) :: be m n
theorem be_len (m : Nat) (n : Int) : (be m n).length = m := by induction m with
  | zero => rfl
  | succ m ih => simp [be, ih]
theorem be_b (m : Nat) (n : Int) : ∀ x ∈ be m n, 0 ≤ x ∧ x < 256 := by
  induction m with
  | zero => intro x hx; simp [be] at hx
  | succ m ih =>
    intro x hx
    rcases List.mem_cons.1 hx with rfl | hx
    · omega
    · exact ih x hx
theorem right_f (n : Nat) (h1 : 1 ≤ n) (h8 : n ≤ 8) : wire_right.f (n : Int) = some true := by unfold wire_right.f; rw [if_pos (by omega), decide_eq_true (by omega)]
theorem app_l0 (l : List Int) (n : Int) (n0 : 0 ≤ n) (n1 : n ≤ 18446744073709551615) (size : Nat) (hs : size ≤ 8) (hl : l.length ≤ 100) (d : Nat) : ∀ (k : Nat) (P : List Int), P.length + d = size → d + 1 ≤ k →
    wire_Append.l0 k l n size ((l ++ P) ++ List.replicate d 0) size (P.length : Int) = some ((l ++ P) ++ be d n, 0) := by
  induction d with
  | zero =>
    intro k P hp hk
    obtain ⟨k, rfl⟩ : ∃ m, k = m + 1 := ⟨k - 1, by omega⟩
    simp only [wire_Append.l0]
    rw [if_neg (by omega)]; simp [be]
  | succ d ih =>
    intro k P hp hk
    obtain ⟨k, rfl⟩ : ∃ m, k = m + 1 := ⟨k - 1, by omega⟩
    simp only [wire_Append.l0]
    have e1 : wrap64 (8 * wrap64 (wrap64 ((size : Int) - 1) - (P.length : Int))) = 8 * (d : Int) := by
      rw [iw_in ((size : Int) - 1) (by omega) (by omega), iw_in ((size : Int) - 1 - (P.length : Int)) (by omega) (by omega), iw_in _ (by omega) (by omega)]; omega
    have e2 : wrap64 ((l.length : Int) + (P.length : Int)) = ((l.length + P.length : Nat) : Int) := by rw [iw_in _ (by omega) (by omega)]; omega
    have e3 : shr .u64 n (8 * (d : Int)) % 256 = n / pb d % 256 := by
      rw [shr64 _ _ (by omega)]
      have : (2 : Int) ^ (8 * (d : Int)).toNat = pb d := by
        have h : (8 * (d : Int)).toNat = 8 * d := by omega
        rw [h, Int.pow_mul]; unfold pb; simp
      rw [this]
    rw [if_pos (by omega), e1, e2, if_pos (by omega), if_pos (by omega), if_pos (by simp; omega), e3, iw_in ((P.length : Int) + 1) (by omega) (by omega), Int.toNat_natCast]
    have e4 : ((l ++ P) ++ List.replicate (d + 1) (0 : Int)).set (l.length + P.length) (n / pb d % 256) = (l ++ (P ++ [n / pb d % 256])) ++ List.replicate d 0 := by
      rw [List.set_append_right _ _ (by simp)]
      simp [List.replicate_succ]
    have e5 : ((P.length : Int) + 1) = ((P ++ [n / pb d % 256]).length : Int) := by simp
    rw [e4, e5, ih k (P ++ [n / pb d % 256]) (by simp; omega) (by omega)]
    simp [be]
theorem append_f (k : Nat) (l : List Int) (n : Int) (size : Nat) (n0 : 0 ≤ n) (n1 : n ≤ 18446744073709551615) (h1 : 1 ≤ size) (h8 : size ≤ 8) (hn : n < pb size) (hl : l.length ≤ 100) (hk : 12 ≤ k) : wire_Append.f k l n size = some (l ++ be size n, 0) := by
  obtain ⟨k, rfl⟩ : ∃ m, k = m + 1 := ⟨k - 1, by omega⟩
  have j0 : wire_Append.j0 (k + 1) l n size false = some (l ++ be size n, 0) := by
    simp only [wire_Append.j0, Bool.false_eq_true, if_false]
    have e2 : wrap64 ((l.length : Int) + (size : Int)) = ((l.length + size : Nat) : Int) := by rw [iw_in _ (by omega) (by omega)]; omega
    rw [e2, if_pos (by omega), Int.toNat_natCast, if_pos (by omega)]
    simp only [Option.bind_some]
    have e3 : l.take (min l.length (List.replicate (l.length + size) (0 : Int)).length) ++ (List.replicate (l.length + size) (0 : Int)).drop (min l.length (List.replicate (l.length + size) (0 : Int)).length) = (l ++ []) ++ List.replicate size 0 := by
      rw [List.length_replicate, Nat.min_eq_left (by omega), List.take_length, List.drop_replicate]; simp
    rw [e3]
    have := app_l0 l n n0 n1 size h8 hl size k [] (by simp) (by omega)
    simp only [List.append_nil, List.length_nil] at this ⊢
    exact this
  unfold wire_Append.f
  rw [right_f size h1 h8]
  simp only [Option.bind_some, if_true]
  by_cases h : (size : Int) < 8
  · rw [if_pos h, iw_in (8 * (size : Int)) (by omega) (by omega), if_pos (by omega), shr64 _ _ (by omega)]
    have : (2 : Int) ^ (8 * (size : Int)).toNat = pb size := by
      have h : (8 * (size : Int)).toNat = 8 * size := by omega
      rw [h, Int.pow_mul]; unfold pb; simp
    rw [this, Int.ediv_eq_zero_of_lt n0 hn]
    exact j0
  · rw [if_neg h]; exact j0
theorem bt_str (xs : List Int) (j : Nat) (c : Int) (h : xs[j]? = some c) (h0 : 0 ≤ c) (h1 : c < 256) : bt (strOfNums xs) j = c := by
  obtain ⟨hl, he⟩ := List.getElem?_eq_some_iff.1 h
  have hs : (j : Int).toNat < (strOfNums xs).size := by rw [strOfNums_size]; simpa using hl
  unfold bt
  rw [dif_pos hs]
  have e : (strOfNums xs)[(j : Int).toNat]'hs = UInt8.ofNat c.toNat := by
    show (strOfNums xs).data[(j : Int).toNat]'hs = _
    simp [strOfNums, he]
  rw [e]
  simp only [UInt8.toNat_ofNat']
  omega

def chk (p0 p1 p2 p3 p4 p5 : Int) : Int := if 0 ≤ p0 ∧ p0 ≤ 3 ∧ 1 ≤ p1 ∧ p1 ≤ 4 ∧ 0 ≤ p2 ∧ p2 ≤ 7 ∧ 0 ≤ p3 ∧ p3 ≤ 255 ∧ -128 ≤ p4 ∧ p4 ≤ 127 ∧ -128 ≤ p5 ∧ p5 ≤ 127 then 0 else 3
theorem nin_f (a b c : Int) : ntpmsg_in.f a b c = some (decide (b ≤ a ∧ a ≤ c)) := by
  unfold ntpmsg_in.f
  by_cases h : a ≥ b
  · rw [if_pos h]; simp only [Option.some.injEq, decide_eq_decide]; omega
  · rw [if_neg h, decide_eq_false (by omega)]
theorem check_f (p0 p1 p2 p3 p4 p5 p6 p7 p8 p9 p10 p11 p12 : Int) : ntpmsg_Check.f p0 p1 p2 p3 p4 p5 p6 p7 p8 p9 p10 p11 p12 = some (chk p0 p1 p2 p3 p4 p5) := by
  unfold ntpmsg_Check.f chk
  have go : ∀ (a b c : Int) (x y : Option Int), ((ntpmsg_in.f a b c).bind fun t => (if t = true then x else y)) = if b ≤ a ∧ a ≤ c then x else y := by
    intro a b c x y
    rw [nin_f]
    by_cases h : b ≤ a ∧ a ≤ c
    · rw [decide_eq_true h, if_pos h]; rfl
    · rw [decide_eq_false h, if_neg h]; rfl
  simp only [go]
  by_cases h0 : 0 ≤ p0 ∧ p0 ≤ 3
  · rw [if_pos h0]
    by_cases h1 : 1 ≤ p1 ∧ p1 ≤ 4
    · rw [if_pos h1]
      by_cases h2 : 0 ≤ p2 ∧ p2 ≤ 7
      · rw [if_pos h2]
        by_cases h3 : 0 ≤ p3 ∧ p3 ≤ 255
        · rw [if_pos h3]
          by_cases h4 : -128 ≤ p4 ∧ p4 ≤ 127
          · rw [if_pos h4]
            by_cases h5 : -128 ≤ p5 ∧ p5 ≤ 127
            · rw [if_pos h5, if_pos (by omega)]
            · rw [if_neg h5, if_neg (by omega)]
          · rw [if_neg h4, if_neg (by omega)]
        · rw [if_neg h3, if_neg (by omega)]
      · rw [if_neg h2, if_neg (by omega)]
    · rw [if_neg h1, if_neg (by omega)]
  · rw [if_neg h0, if_neg (by omega)]
theorem rcheck_f (p0 p1 p2 p3 p4 p5 p6 p7 p8 p9 p10 p11 p12 : Int) : timesyncref19_Check.f p0 p1 p2 p3 p4 p5 p6 p7 p8 p9 p10 p11 p12 = some (chk p0 p1 p2 p3 p4 p5) := by
  unfold timesyncref19_Check.f chk
  by_cases h : 0 ≤ p0 ∧ p0 ≤ 3 ∧ 1 ≤ p1 ∧ p1 ≤ 4 ∧ 0 ≤ p2 ∧ p2 ≤ 7 ∧ 0 ≤ p3 ∧ p3 ≤ 255 ∧ -128 ≤ p4 ∧ p4 ≤ 127 ∧ -128 ≤ p5 ∧ p5 ≤ 127
  · rw [if_pos h]; repeat rw [if_neg (by omega)]
  · rw [if_neg h]
    by_cases a0 : p0 < 0
    · rw [if_pos a0]
    rw [if_neg a0]
    by_cases a1 : p0 > 3
    · rw [if_pos a1]
    rw [if_neg a1]
    by_cases a2 : p1 < 1
    · rw [if_pos a2]
    rw [if_neg a2]
    by_cases a3 : p1 > 4
    · rw [if_pos a3]
    rw [if_neg a3]
    by_cases a4 : p2 < 0
    · rw [if_pos a4]
    rw [if_neg a4]
    by_cases a5 : p2 > 7
    · rw [if_pos a5]
    rw [if_neg a5]
    by_cases a6 : p3 < 0
    · rw [if_pos a6]
    rw [if_neg a6]
    by_cases a7 : p3 > 255
    · rw [if_pos a7]
    rw [if_neg a7]
    by_cases a8 : p4 < -128
    · rw [if_pos a8]
    rw [if_neg a8]
    by_cases a9 : p4 > 127
    · rw [if_pos a9]
    rw [if_neg a9]
    by_cases a10 : p5 < -128
    · rw [if_pos a10]
    rw [if_neg a10]
    by_cases a11 : p5 > 127
    · rw [if_pos a11]
    rw [if_neg a11]
    exact absurd (by omega) h
def syn (p0 p3 : Int) : Bool := decide (p0 ≠ 3 ∧ 1 ≤ p3 ∧ p3 ≤ 15)
theorem synced_f (p0 p1 p2 p3 p4 p5 p6 p7 p8 p9 p10 p11 p12 : Int) : ntpmsg_Synced.f p0 p1 p2 p3 p4 p5 p6 p7 p8 p9 p10 p11 p12 = some (syn p0 p3) := by
  unfold ntpmsg_Synced.f syn
  by_cases h : p0 = 3
  · rw [if_pos h, decide_eq_false (by omega)]
  · rw [if_neg h, nin_f]; simp only [Option.bind_some]; by_cases h2 : 1 ≤ p3 ∧ p3 ≤ 15
    · rw [decide_eq_true h2, decide_eq_true (by omega)]
    · rw [decide_eq_false h2, decide_eq_false (by omega)]
theorem rsynced_f (p0 p1 p2 p3 p4 p5 p6 p7 p8 p9 p10 p11 p12 : Int) : timesyncref19_Synced.f p0 p1 p2 p3 p4 p5 p6 p7 p8 p9 p10 p11 p12 = some (syn p0 p3) := by
  unfold timesyncref19_Synced.f syn
  by_cases h : p0 = 3
  · rw [if_pos h, decide_eq_false (by omega)]
  · rw [if_neg h]
    by_cases h2 : p3 ≥ 1
    · rw [if_pos h2]; by_cases h3 : p3 ≤ 15
      · rw [decide_eq_true h3, decide_eq_true (by omega)]
      · rw [decide_eq_false h3, decide_eq_false (by omega)]
    · rw [if_neg h2, decide_eq_false (by omega)]
def inb (t : Int) : Bool := decide (-4503599627370496 ≤ t ∧ t ≤ 4503599627370496)
theorem inside_f (t : Int) : assoc_inside.f t = some (inb t) := by
  unfold assoc_inside.f inb
  by_cases h : t ≥ (-4503599627370496)
  · rw [if_pos h]; by_cases h3 : t ≤ 4503599627370496
    · rw [decide_eq_true h3, decide_eq_true (by omega)]
    · rw [decide_eq_false h3, decide_eq_false (by omega)]
  · rw [if_neg h, decide_eq_false (by omega)]
theorem rin_f (t : Int) : timesyncref31_in.f t = some (inb t) := inside_f t
theorem lin_f (t : Int) : timesynclaw31_in.f t = some (inb t) := inside_f t
/-- An upper-case letter. -/
def up (c : Int) : Prop := 65 ≤ c ∧ c ≤ 90
instance (c : Int) : Decidable (up c) := by unfold up; infer_instance
def b3 (x : Int) : Int := x / 16777216 % 256
def b2 (x : Int) : Int := x / 65536 % 256
def b1 (x : Int) : Int := x / 256 % 256
def b0 (x : Int) : Int := x % 256
def kis (p3 x : Int) : ByteArray × Bool := if p3 = 0 ∧ up (b3 x) ∧ up (b2 x) ∧ up (b1 x) ∧ up (b0 x) then (strOfNums [b3 x, b2 x, b1 x, b0 x], true) else (⟨#[]⟩, false)
theorem be4 (x : Int) (h0 : 0 ≤ x) (h1 : x ≤ 4294967295) : be 4 x = [b3 x, b2 x, b1 x, b0 x] := by
  simp [be, pb, b3, b2, b1, b0]
theorem put_f (k : Nat) (x : Int) (h0 : 0 ≤ x) (h1 : x ≤ 4294967295) (hk : 20 ≤ k) : ntpmsg_put.f k [⟨IntKind.u64.wrap x, 4⟩] = some [b3 x, b2 x, b1 x, b0 x] := by
  have hw : IntKind.u64.wrap x = x := by simp [IntKind.wrap, IntKind.signed, IntKind.bits]; omega
  rw [hw]
  obtain ⟨k, rfl⟩ : ∃ m, k = m + 2 := ⟨k - 2, by omega⟩
  unfold ntpmsg_put.f
  have ha := append_f (k + 1) [] x 4 h0 (by omega) (by omega) (by omega) (by simp [pb]; omega) (by simp) (by omega)
  simp only [ntpmsg_put.l0, rd_T80]
  rw [if_pos (by simp), if_pos (by omega), if_pos (by simp)]
  simp only [Int.toNat_zero, List.getD_cons_zero]
  have ha' : wire_Append.f (k + 1) [] x 4 = some ([] ++ be 4 x, 0) := ha
  rw [ha']
  simp only [Option.bind_some, List.nil_append]
  rw [iw_in (0 + 1) (by omega) (by omega), if_neg (by simp), be4 x h0 h1]
theorem code_step (k : Nat) (s : ByteArray) (hs : s.size = 4) (n i c : Int) (i0 : 0 ≤ i) (i4 : i < 4) (hc : bt s i = c) : ∃ n', ntpmsg_Code.l0 (k + 1) s n 4 i = if up c then ntpmsg_Code.l0 k s n' 4 (i + 1) else some (0, 19) := by
  have z4 : ((4 : Nat) : Int) = 4 := rfl
  refine ⟨Go.bits .or .u32 ((n * 256) % 4294967296) (c % 4294967296), ?_⟩
  simp only [ntpmsg_Code.l0]
  rw [if_pos i4, if_pos i0, hs, if_pos (by omega), hc, iw_in (i + 1) (by omega) (by omega)]
  by_cases a : c < 65
  · rw [if_pos a, if_neg (by unfold up; omega)]
  rw [if_neg a]
  by_cases b : c > 90
  · rw [if_pos b, if_neg (by unfold up; omega)]
  rw [if_neg b, if_pos (by unfold up; omega)]
theorem code_f (k : Nat) (c3 c2 c1 c0 : Int) (h3 : 0 ≤ c3 ∧ c3 < 256) (h2 : 0 ≤ c2 ∧ c2 < 256) (h1 : 0 ≤ c1 ∧ c1 < 256) (h0 : 0 ≤ c0 ∧ c0 < 256) (hk : 20 ≤ k) :
    ∃ v, ntpmsg_Code.f k (strOfNums [c3, c2, c1, c0]) = some (v, if up c3 ∧ up c2 ∧ up c1 ∧ up c0 then 0 else 19) := by
  obtain ⟨k, rfl⟩ : ∃ m, k = m + 5 := ⟨k - 5, by omega⟩
  have z4 : ((4 : Nat) : Int) = 4 := rfl
  have hs : (strOfNums [c3, c2, c1, c0]).size = 4 := by rw [strOfNums_size]; rfl
  unfold ntpmsg_Code.f
  rw [hs, z4, if_pos rfl]
  obtain ⟨n1, e1⟩ := code_step (k + 4) _ hs 0 0 c3 (by omega) (by omega) (bt_str _ 0 c3 rfl h3.1 h3.2)
  obtain ⟨n2, e2⟩ := code_step (k + 3) _ hs n1 (0 + 1) c2 (by omega) (by omega) (bt_str _ 1 c2 rfl h2.1 h2.2)
  obtain ⟨n3, e3⟩ := code_step (k + 2) _ hs n2 (0 + 1 + 1) c1 (by omega) (by omega) (bt_str _ 2 c1 rfl h1.1 h1.2)
  obtain ⟨n4, e4⟩ := code_step (k + 1) _ hs n3 (0 + 1 + 1 + 1) c0 (by omega) (by omega) (bt_str _ 3 c0 rfl h0.1 h0.2)
  have e5 : ntpmsg_Code.l0 (k + 1) (strOfNums [c3, c2, c1, c0]) n4 4 (0 + 1 + 1 + 1 + 1) = some (n4, 0) := by simp only [ntpmsg_Code.l0]; rw [if_neg (by omega)]
  rw [e1, e2, e3, e4, e5]
  by_cases u3 : up c3
  · by_cases u2 : up c2
    · by_cases u1 : up c1
      · by_cases u0 : up c0
        · exact ⟨n4, by rw [if_pos u3, if_pos u2, if_pos u1, if_pos u0, if_pos ⟨u3, u2, u1, u0⟩]⟩
        · exact ⟨0, by rw [if_pos u3, if_pos u2, if_pos u1, if_neg u0, if_neg (fun e => u0 e.2.2.2)]⟩
      · exact ⟨0, by rw [if_pos u3, if_pos u2, if_neg u1, if_neg (fun e => u1 e.2.2.1)]⟩
    · exact ⟨0, by rw [if_pos u3, if_neg u2, if_neg (fun e => u2 e.2.1)]⟩
  · exact ⟨0, by rw [if_neg u3, if_neg (fun e => u3 e.1)]⟩
theorem kiss_f (k : Nat) (p0 p1 p2 p3 p4 p5 p6 p7 p8 p9 p10 p11 p12 : Int) (h0 : 0 ≤ p8) (h1 : p8 ≤ 4294967295) (hk : 30 ≤ k) : ntpmsg_Kiss.f k p0 p1 p2 p3 p4 p5 p6 p7 p8 p9 p10 p11 p12 = some (kis p3 p8) := by
  unfold ntpmsg_Kiss.f kis
  rw [put_f k p8 h0 h1 (by omega)]
  simp only [Option.bind_some]
  obtain ⟨v, hv⟩ := code_f k (b3 p8) (b2 p8) (b1 p8) (b0 p8) (by unfold b3; omega) (by unfold b2; omega) (by unfold b1; omega) (by unfold b0; omega) (by omega)
  rw [hv]
  simp only [Option.bind_some]
  by_cases h : p3 = 0
  · rw [if_pos h]
    by_cases hu : up (b3 p8) ∧ up (b2 p8) ∧ up (b1 p8) ∧ up (b0 p8)
    · rw [if_pos hu, if_pos rfl, if_pos ⟨h, hu⟩]
    · rw [if_neg hu, if_neg (by omega), if_neg (fun e => hu e.2)]
  · rw [if_neg h, if_neg (fun e => h e.1)]
theorem shr32 (x s : Int) (h1 : s ≤ 32) : shr .u32 x s = x / 2 ^ s.toNat := by
  unfold shr; rw [Nat.min_eq_left (by simp [IntKind.bits]; omega)]
theorem rkiss_f (k : Nat) (p0 p1 p2 p3 p4 p5 p6 p7 p8 p9 p10 p11 p12 : Int) (h0 : 0 ≤ p8) (h1 : p8 ≤ 4294967295) (hk : 30 ≤ k) : timesyncref19_Kiss.f k p0 p1 p2 p3 p4 p5 p6 p7 p8 p9 p10 p11 p12 = some (kis p3 p8) := by
  obtain ⟨k, rfl⟩ : ∃ m, k = m + 5 := ⟨k - 5, by omega⟩
  unfold timesyncref19_Kiss.f kis
  by_cases h : p3 = 0
  · rw [if_pos h]
    have w0 : wrap64 (0 + 1) = 1 := by unfold wrap64; omega
    have w1 : wrap64 (1 + 1) = 2 := by unfold wrap64; omega
    have w2 : wrap64 (2 + 1) = 3 := by unfold wrap64; omega
    have w3 : wrap64 (3 + 1) = 4 := by unfold wrap64; omega
    have v0 : wrap64 (24 - wrap64 (8 * 0)) = 24 := by unfold wrap64; omega
    have v1 : wrap64 (24 - wrap64 (8 * 1)) = 16 := by unfold wrap64; omega
    have v2 : wrap64 (24 - wrap64 (8 * 2)) = 8 := by unfold wrap64; omega
    have v3 : wrap64 (24 - wrap64 (8 * 3)) = 0 := by unfold wrap64; omega
    have s0 : shr .u32 p8 24 % 256 = b3 p8 := by rw [shr32 _ _ (by omega)]; rfl
    have s1 : shr .u32 p8 16 % 256 = b2 p8 := by rw [shr32 _ _ (by omega)]; rfl
    have s2 : shr .u32 p8 8 % 256 = b1 p8 := by rw [shr32 _ _ (by omega)]; rfl
    have s3 : shr .u32 p8 0 % 256 = b0 p8 := by rw [shr32 _ _ (by omega)]; show p8 / 1 % 256 = _; rw [Int.ediv_one]; rfl
    simp only [timesyncref19_Kiss.l0, w0, w1, w2, w3, v0, v1, v2, v3, s0, s1, s2, s3, List.nil_append, List.cons_append, List.length_nil, List.length_cons]
    generalize b3 p8 = c3
    generalize b2 p8 = c2
    generalize b1 p8 = c1
    generalize b0 p8 = c0
    have z0 : (0 : Int) < 4 := by omega
    rw [if_pos z0, if_pos (by omega)]
    by_cases a3 : c3 < 65
    · rw [if_pos a3, if_neg (by unfold up; omega)]
    rw [if_neg a3]
    by_cases a3' : c3 > 90
    · rw [if_pos a3', if_neg (by unfold up; omega)]
    rw [if_neg a3', if_pos (by omega), if_pos (by omega), if_pos (by omega)]
    by_cases a2 : c2 < 65
    · rw [if_pos a2, if_neg (by unfold up; omega)]
    rw [if_neg a2]
    by_cases a2' : c2 > 90
    · rw [if_pos a2', if_neg (by unfold up; omega)]
    rw [if_neg a2', if_pos (by omega), if_pos (by omega), if_pos (by omega)]
    by_cases a1 : c1 < 65
    · rw [if_pos a1, if_neg (by unfold up; omega)]
    rw [if_neg a1]
    by_cases a1' : c1 > 90
    · rw [if_pos a1', if_neg (by unfold up; omega)]
    rw [if_neg a1', if_pos (by omega), if_pos (by omega), if_pos (by omega)]
    by_cases a0 : c0 < 65
    · rw [if_pos a0, if_neg (by unfold up; omega)]
    rw [if_neg a0]
    by_cases a0' : c0 > 90
    · rw [if_pos a0', if_neg (by unfold up; omega)]
    rw [if_neg a0', if_pos (by omega), if_neg (by omega), if_pos (by unfold up; omega)]
  · rw [if_neg h, if_neg (fun e => h e.1)]
/-- The instant of a timestamp near now, and whether there is one. -/
def fnd (s now : Int) : Int × Bool := ((tm s (3900000000000000000 + now)).1 - 3900000000000000000, decide ((tm s (3900000000000000000 + now)).2 = 0 ∧ inb ((tm s (3900000000000000000 + now)).1 - 3900000000000000000) = true))
theorem tm_in (s now : Int) (s0 : 0 ≤ s) (s1 : s ≤ 18446744073709551615) (h : inb now = true) : wrap64 ((tm s (3900000000000000000 + now)).1 - 3900000000000000000) = (tm s (3900000000000000000 + now)).1 - 3900000000000000000 := by
  have h' : -4503599627370496 ≤ now ∧ now ≤ 4503599627370496 := by unfold inb at h; exact of_decide_eq_true h
  rcases tm_near s (3900000000000000000 + now) s0 s1 (by omega) (by omega) with ⟨e, _⟩ | ⟨t, e, a, b, c, d, _, _⟩
  · rw [e]; exact iw_in _ (by omega) (by omega)
  · rw [e]; exact iw_in _ (by show _ ≤ t - 3900000000000000000; omega) (by show t - 3900000000000000000 ≤ _; omega)
theorem found_f (k : Nat) (s now : Int) (s0 : 0 ≤ s) (s1 : s ≤ 18446744073709551615) (h : inb now = true) (hk : 30 ≤ k) : assoc_found.f k s now = some (fnd s now) := by
  have h' : -4503599627370496 ≤ now ∧ now ≤ 4503599627370496 := by unfold inb at h; exact of_decide_eq_true h
  unfold assoc_found.f fnd
  rw [iw_in (3900000000000000000 + now) (by omega) (by omega), time_f k s _ s0 s1 (by omega) (by omega) (by omega)]
  simp only [Option.bind_some, tm_in s now s0 s1 h, inside_f]
  by_cases e : (tm s (3900000000000000000 + now)).2 = 0
  · rw [if_pos e]; simp [e]
  · rw [if_neg e]; simp [e]
theorem instant_f (k : Nat) (s now : Int) (s0 : 0 ≤ s) (s1 : s ≤ 18446744073709551615) (h : inb now = true) (hk : 30 ≤ k) : timesyncref31_instant.f k s now = some (if (fnd s now).2 = true then (fnd s now).1 else 0, (fnd s now).2) := by
  have h' : -4503599627370496 ≤ now ∧ now ≤ 4503599627370496 := by unfold inb at h; exact of_decide_eq_true h
  unfold timesyncref31_instant.f fnd
  rw [iw_in (3900000000000000000 + now) (by omega) (by omega), rtime_f k s _ s0 s1 (by omega) (by omega) (by omega)]
  simp only [Option.bind_some, tm_in s now s0 s1 h, rin_f]
  by_cases e : (tm s (3900000000000000000 + now)).2 = 0
  · rw [if_pos e]
    by_cases i : inb ((tm s (3900000000000000000 + now)).1 - 3900000000000000000) = true
    · rw [if_pos i]; simp [e, i]
    · rw [if_neg i]; simp [e, i]
  · rw [if_neg e]; simp [e]
end Go.Proofs.Ytohjmfjdopffkaa.AsP
