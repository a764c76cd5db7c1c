/- FaultLeast without any program: the law itself. -/
import Derived.Test.YtcnckfhibmlioaaFaLeast
import Derived.Test.YtcnckfhibmlioaaFaOpen
namespace Go.Proofs.Ytcnckfhibmlioaa.Fa
open Go Go.RowKit Go.Proofs.Ytcnckfhibmlioaa Go.Proofs.Ytcnckfhibmlioaa.PFa Go.Proofs.Ytcnckfhibmlioaa.Ob Go.Proofs.YtcnckfhibmlioaaW.PrintWords Go.Proofs.YtcnckfhibmlioaaW.PrintMore
set_option linter.unusedVariables false
set_option linter.unusedSimpArgs false
/-- The number whose bits are these. -/
def bt (js : List Int) : Nat := js.foldl (fun b x => b ||| 2 ^ x.toNat) 0
theorem bt_snoc (js : List Int) (x : Int) : bt (js ++ [x]) = bt js ||| 2 ^ x.toNat := by unfold bt; rw [List.foldl_append]; rfl
theorem bt_key : ∀ (js : List Int) (b i : Nat), (js.foldl (fun b (x : Int) => b ||| 2 ^ x.toNat) b).testBit i = (b.testBit i || js.any (fun x => decide (x.toNat = i)))
  | [], b, i => by show _ = (_ || false); rw [Bool.or_false]; rfl
  | x :: r, b, i => by
    rw [List.foldl_cons, bt_key r, Nat.testBit_or, Nat.testBit_two_pow]
    show _ = (_ || (decide (x.toNat = i) || r.any _))
    rw [Bool.or_assoc]
theorem bt_bit (js : List Int) (i : Nat) : (bt js).testBit i = js.any (fun x => decide (x.toNat = i)) := by
  unfold bt; rw [bt_key, Nat.zero_testBit, Bool.false_or]
theorem bt_lt : ∀ (js : List Int) (b : Nat), b < 2 ^ 24 → (∀ x ∈ js, 0 ≤ x ∧ x < 24) → js.foldl (fun b (x : Int) => b ||| 2 ^ x.toNat) b < 2 ^ 24
  | [], b, hb, _ => hb
  | x :: r, b, hb, h => by
    rw [List.foldl_cons]
    have hx := h x List.mem_cons_self
    refine bt_lt r _ (Nat.or_lt_two_pow hb ?_) (fun y hy => h y (List.mem_cons_of_mem _ hy))
    exact Nat.pow_lt_pow_right (by decide) (by omega)
theorem or_bit (b x : Nat) (hb : b < 2 ^ 24) (hx : x < 24) : bits .or .u32 (b : Int) (shl .u32 1 (x : Int)) = ((b ||| 2 ^ x : Nat) : Int) := by
  have hp : 2 ^ x < 2 ^ 32 := Nat.pow_lt_pow_right (by decide) (by omega)
  have hk : ∀ n : Int, 0 ≤ n → n < 2 ^ 32 → IntKind.u32.wrap n = n := fun n h0 h1 => by rw [IntKind.wrap_u32]; omega
  have e1 : shl .u32 1 (x : Int) = ((2 ^ x : Nat) : Int) := by
    unfold shl
    rw [Int.toNat_natCast, Nat.min_eq_left (by show x ≤ 32; omega), Int.one_mul]
    have : ((2 : Int) ^ x) = ((2 ^ x : Nat) : Int) := by simp
    rw [this]
    exact hk _ (Int.natCast_nonneg _) (by exact_mod_cast hp)
  rw [e1, (bits_nat .u32 32 (by decide) hk b (2 ^ x) (Nat.lt_trans hb (by decide)) hp).2]
theorem andNot_zero (b v : Nat) (hb : b < 4294967296) (hv : v < 4294967296) (h : ∀ i, b.testBit i = true → v.testBit i = true) : bits .andNot .u32 (b : Int) (v : Int) = 0 := by
  have e : BitVec.ofInt 32 (b : Int) &&& ~~~ BitVec.ofInt 32 (v : Int) = 0#32 := by
    rw [BitVec.ofInt_natCast, BitVec.ofInt_natCast]
    apply BitVec.eq_of_getLsbD_eq
    intro i hi
    rw [BitVec.getLsbD_and, BitVec.getLsbD_not, BitVec.getLsbD_ofNat, BitVec.getLsbD_ofNat]
    cases c : b.testBit i with
    | false => simp
    | true => rw [h i c]; simp
  show IntKind.u32.wrap ((BitVec.ofInt 32 (b : Int) &&& ~~~ BitVec.ofInt 32 (v : Int)).toNat : Int) = 0
  rw [e]; rfl
theorem pick_mem (h : List Bool) (m : Nat) (x : Int) : x ∈ pickL h m ↔ ∃ j : Nat, x = (j : Int) ∧ j < m ∧ h.getD j false = true := by
  unfold pickL
  rw [List.mem_map]
  constructor
  · rintro ⟨j, hj, rfl⟩
    have := List.mem_filter.mp hj
    exact ⟨j, rfl, List.mem_range.mp this.1, this.2⟩
  · rintro ⟨j, rfl, h1, h2⟩
    exact ⟨j, List.mem_filter.mpr ⟨List.mem_range.mpr h1, h2⟩, rfl⟩
theorem pick_sorted (h : List Bool) (m : Nat) : (pickL h m).Pairwise (· < ·) := by
  unfold pickL
  rw [List.pairwise_map]
  exact (List.pairwise_lt_range.filter _).imp (fun h => by omega)
theorem pick_bits (h : List Bool) (n : Nat) (hh : h.length = n) : tob n (bt (pickL h n)) = h := by
  apply List.ext_getElem?
  intro i
  by_cases hi : i < n
  · have e : (tob n (bt (pickL h n))).getD i false = h.getD i false := by
      rw [tob_get n _ i hi, bt_bit]
      cases c : h.getD i false with
      | true =>
        rw [List.any_eq_true]
        exact ⟨(i : Int), (pick_mem h n _).mpr ⟨i, rfl, hi, c⟩, by simp⟩
      | false =>
        rw [List.any_eq_false]
        intro x hx
        obtain ⟨j, rfl, h1, h2⟩ := (pick_mem h n x).mp hx
        simp only [Int.toNat_natCast, decide_eq_true_eq]
        intro e; subst e; rw [c] at h2; cases h2
    rw [List.getD_eq_getElem?_getD, List.getD_eq_getElem?_getD, List.getElem?_eq_getElem (by rw [tob_len]; exact hi), List.getElem?_eq_getElem (by omega)] at e
    rw [List.getElem?_eq_getElem (by rw [tob_len]; exact hi), List.getElem?_eq_getElem (by omega)]
    exact congrArg some e
  · rw [List.getElem?_eq_none (by rw [tob_len]; omega), List.getElem?_eq_none (by omega)]
section
variable {n v : Nat} {S : List (List Int)}
theorem least_l0 (hS : ∀ xs ∈ S, xs.length ≤ LIM) (h1n : 1 ≤ n) (hn : n ≤ 24) (hv : v < 4294967296) (l : List S46) (u : List Int) (hu : u = pickL (fin S (ini n l)) n) : ∀ (d j : Nat), j + d = u.length → ∃ c, ∀ k0, timesynclaw55_FaultLeast.l0 (k0 + c) n S l v u ((bt (u.take j) : Nat) : Int) u (u.length : Int) j = some true
  | 0, j, hj => by
    have hU : (fin S (ini n l)).length = n := by unfold fin; rw [iterR_len, ini_len]
    have hin : ∀ x ∈ u, 0 ≤ x ∧ x < 24 := fun x hx => by
      rw [hu] at hx
      obtain ⟨q, rfl, h1, _⟩ := (pick_mem _ _ _).mp hx
      omega
    have hb : bt u < 2 ^ 24 := bt_lt u 0 (by decide) hin
    have hb2 : bt u < 4294967296 := Nat.lt_trans hb (by decide)
    obtain ⟨c1, h1⟩ := closed_f hS hn hb2 l
    obtain ⟨c2, h2⟩ := closed_f hS hn hv l
    refine ⟨c1 + c2 + 1, fun k0 => ?_⟩
    have et : tob n (bt u) = fin S (ini n l) := by rw [hu]; exact pick_bits _ n hU
    have hc1 : clB n S l (bt u) = true := (clB_iff l).mpr (by rw [et]; exact uns_closed hS l)
    rw [← Nat.add_assoc, List.take_of_length_le (by omega)]
    unfold timesynclaw55_FaultLeast.l0
    have e1 := h1 (k0 + c2)
    have e2 := h2 (k0 + c1)
    rw [show k0 + c2 + c1 = k0 + (c1 + c2) by omega] at e1
    rw [show k0 + c1 + c2 = k0 + (c1 + c2) by omega] at e2
    rw [if_neg (by omega), e1, Option.bind_some, hc1, if_pos rfl, e2, Option.bind_some]
    by_cases c : clB n S l v = true
    · have hle := uns_least hS l (tob n v) (tob_len n v) ((clB_iff l).mp c)
      rw [if_pos c, andNot_zero (bt u) v hb2 hv (fun i hi => ?_), if_pos rfl]; rfl
      rw [bt_bit, List.any_eq_true] at hi
      obtain ⟨x, hx, hxi⟩ := hi
      rw [hu] at hx
      obtain ⟨q, rfl, g1, g2⟩ := (pick_mem _ _ _).mp hx
      simp only [Int.toNat_natCast, decide_eq_true_eq] at hxi
      subst hxi
      have := hle q g2
      rwa [tob_get n v q g1] at this
    · rw [if_neg c]; rfl
  | d + 1, j, hj => by
    have hjl : j < u.length := by omega
    obtain ⟨c, hc⟩ := least_l0 hS h1n hn hv l u hu d (j + 1) (by omega)
    refine ⟨c + 1, fun k0 => ?_⟩
    have hx : u[j] ∈ pickL (fin S (ini n l)) n := by rw [← hu]; exact List.getElem_mem hjl
    obtain ⟨q, hq, g1, g2⟩ := (pick_mem _ _ _).mp hx
    have hul : u.length ≤ 24 := by rw [hu]; exact Nat.le_trans (pickL_len _ _) hn
    have hin : ∀ x ∈ u.take j, 0 ≤ x ∧ x < 24 := fun x hx => by
      have hx := List.mem_of_mem_take hx
      rw [hu] at hx
      obtain ⟨q, rfl, h1, _⟩ := (pick_mem _ _ _).mp hx
      omega
    have hb : bt (u.take j) < 2 ^ 24 := bt_lt _ 0 (by decide) hin
    have hstep : bits .or .u32 ((bt (u.take j) : Nat) : Int) (shl .u32 1 u[j]) = ((bt (u.take (j + 1)) : Nat) : Int) := by
      rw [List.take_succ_eq_append_getElem hjl, bt_snoc, hq, or_bit _ q hb (by omega), Int.toNat_natCast]
    rw [← Nat.add_assoc]
    conv => lhs; unfold timesynclaw55_FaultLeast.l0
    rw [if_pos (by omega), if_pos (by omega), if_pos (by omega), rd_e _ j hjl, if_neg (by omega), if_neg (by omega), hstep, w1 j (by omega)]
    by_cases c0 : (j : Int) > 0
    · have ew : wrap64 ((j : Int) - 1) = ((j - 1 : Nat) : Int) := by rw [w64_in (by omega) (by omega)]; omega
      have hs : u[j - 1] < u[j] := by
        have hp := pick_sorted (fin S (ini n l)) n
        rw [← hu] at hp
        exact List.pairwise_iff_getElem.mp hp (j - 1) j (by omega) hjl (by omega)
      rw [if_pos c0, ew, if_pos (by omega), if_pos (by omega), rd_e _ (j - 1) (by omega), if_neg (by omega), if_pos (by omega)]
      exact hc k0
    · rw [if_neg c0, if_pos (by omega)]
      exact hc k0
end
theorem faultLeast_pure (n : Int) (S : List (List Int)) (l : List S46) (v : Nat) (hv : v < 4294967296) (hS : ∀ xs ∈ S, xs.length ≤ LIM) (hl : S.length ≤ BIG) : ∃ k, timesynclaw55_FaultLeast.f k n S l v = some true := by
  obtain ⟨c1, h1⟩ := unsound_f n S l (fun xs hx => Nat.le_trans (hS xs hx) (by unfold LIM BIG; omega))
  have j : ∃ c, ∀ k0 b, timesynclaw55_FaultLeast.j0 (k0 + c) n S l v b = some true := by
    by_cases g : n < 1 ∨ 24 < n
    · refine ⟨c1 + 1 + 1, fun k0 b => ?_⟩
      have hU : UNS n S l = [] := by unfold UNS; rw [if_pos g]
      have e1 := h1 (k0 + 1)
      rw [show k0 + 1 + c1 = k0 + (c1 + 1) by omega] at e1
      rw [← Nat.add_assoc, timesynclaw55_FaultLeast.j0]
      by_cases c : b = true
      · rw [if_pos c]; rfl
      rw [if_neg c, e1, Option.bind_some, hU]
      have hj : timesynclaw55_FaultLeast.j1 (k0 + (c1 + 1)) n S l v [] true = some true := by
        rw [show k0 + (c1 + 1) = (k0 + c1) + 1 by omega, timesynclaw55_FaultLeast.j1, if_pos rfl]; rfl
      rcases g with g | g
      · rw [if_pos g]; exact hj
      · rw [if_neg (by omega), decide_eq_true (show n > 24 from g)]; exact hj
    · obtain ⟨m, rfl⟩ : ∃ m : Nat, n = m := ⟨n.toNat, by omega⟩
      have hU : UNS (m : Int) S l = pickL (fin S (ini m l)) m := by unfold UNS; rw [if_neg g, Int.toNat_natCast]
      obtain ⟨c2, h2⟩ := least_l0 (n := m) hS (by omega) (by omega) hv l (UNS m S l) hU (UNS m S l).length 0 (by omega)
      refine ⟨c1 + c2 + 1 + 1, fun k0 b => ?_⟩
      have e1 := h1 (k0 + c2 + 1)
      rw [show k0 + c2 + 1 + c1 = k0 + (c1 + c2 + 1) by omega] at e1
      rw [← Nat.add_assoc, timesynclaw55_FaultLeast.j0]
      by_cases c : b = true
      · rw [if_pos c]; rfl
      rw [if_neg c, e1, Option.bind_some, if_neg (by omega), decide_eq_false (show ¬ (m : Int) > 24 by omega), show k0 + (c1 + c2 + 1) = (k0 + c1 + c2) + 1 by omega, timesynclaw55_FaultLeast.j1, if_neg (by simp)]
      exact h2 (k0 + c1)
  obtain ⟨c, hc⟩ := j
  refine ⟨S.length + 1 + c, ?_⟩
  obtain ⟨b, hb⟩ := many_f S hl (S.length + 1 + c) (by omega)
  unfold timesynclaw55_FaultLeast.f
  rw [show timesynclaw55_long.f l = some (decide ((l.length : Int) > 200)) from rfl, Option.bind_some]
  by_cases h : (l.length : Int) > 200
  · rw [decide_eq_true h, if_pos rfl]; exact hc _ _
  · rw [decide_eq_false h, if_neg (by simp), hb, Option.bind_some]; exact hc _ _
end Go.Proofs.Ytcnckfhibmlioaa.Fa
