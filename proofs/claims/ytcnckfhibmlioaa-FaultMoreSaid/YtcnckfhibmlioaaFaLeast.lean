/- FaultLeast without any program: the unsound nodes are the least closed set that contains the faulty ones. -/
import Derived.Test.YtcnckfhibmlioaaFaUns
import Derived.Test.YtcnckfhibmlioaaPFax13
namespace Go.Proofs.Ytcnckfhibmlioaa.Fa
open Go Go.RowKit Go.Proofs.Ytcnckfhibmlioaa Go.Proofs.Ytcnckfhibmlioaa.PFa Go.Proofs.Ytcnckfhibmlioaa.Ob Go.Proofs.YtcnckfhibmlioaaW.PrintWords Go.Proofs.YtcnckfhibmlioaaW.PrintMore
set_option linter.unusedVariables false
set_option linter.unusedSimpArgs false
/-- One set lies in the other. -/
def le (h g : List Bool) : Prop := ∀ i, h.getD i false = true → g.getD i false = true
theorem le_refl (h : List Bool) : le h h := fun _ e => e
theorem le_trans {a b c : List Bool} (h : le a b) (k : le b c) : le a c := fun i e => k i (h i e)
theorem getD_set (h : List Bool) (i j : Nat) (hi : i < h.length) : (h.set i true).getD j false = (h.getD j false || decide (i = j)) := by
  simp only [List.getD_eq_getElem?_getD, List.getElem?_set]
  by_cases c : i = j
  · subst c; rw [if_pos rfl, if_pos hi, decide_eq_true rfl, Bool.or_true]; rfl
  · rw [if_neg c, decide_eq_false c, Bool.or_false]
theorem le_set (h : List Bool) (i : Nat) : le h (h.set i true) := by
  intro j e
  by_cases hi : i < h.length
  · rw [getD_set h i j hi, e]; rfl
  · rw [List.set_eq_of_length_le (by omega)]; exact e
theorem cnt_mono {h g : List Bool} (hl : h.length = g.length) (k : le h g) (xs : List Int) : cnt h xs ≤ cnt g xs := by
  unfold cnt
  refine List.countP_mono_left (fun x _ hx => ?_)
  unfold hit at hx ⊢
  rw [← hl]
  rcases Bool.or_eq_true _ _ ▸ hx with e | e
  · rw [e]; rfl
  rcases Bool.or_eq_true _ _ ▸ e with e | e
  · rw [e, Bool.true_or, Bool.or_true]
  · rw [k _ e, Bool.or_true, Bool.or_true]
theorem stp_ge (S : List (List Int)) (h : List Bool) (i : Nat) : le h (stp S h i) := by
  unfold stp; split
  · exact le_set h i
  · exact le_refl h
theorem pass_ge (S : List (List Int)) : ∀ (e i : Nat) (h : List Bool), le h (passF S e i h)
  | 0, _, h => le_refl h
  | e + 1, i, h => le_trans (stp_ge S h i) (pass_ge S e (i + 1) _)
theorem iter_ge (S : List (List Int)) : ∀ (j : Nat) (h : List Bool), le h (iterR S j h)
  | 0, h => le_refl h
  | j + 1, h => le_trans (pass_ge S _ _ h) (iter_ge S j _)
/-- Half of the node's servers are in the set. -/
def half (S : List (List Int)) (h : List Bool) (i : Nat) : Prop := 0 < (S.getD i []).length ∧ (S.getD i []).length ≤ 2 * cnt h (S.getD i [])
def LIM : Nat := 1152921504606846976
theorem wrap2 (n : Nat) (h : n ≤ LIM) : wrap64 (2 * (n : Int)) = 2 * (n : Int) := by unfold LIM at h; rw [w64_in (by omega) (by omega)]
theorem getD_lim {S : List (List Int)} (hS : ∀ xs ∈ S, xs.length ≤ LIM) (i : Nat) : (S.getD i []).length ≤ LIM := by
  by_cases hi : i < S.length
  · rw [List.getD_eq_getElem?_getD, List.getElem?_eq_getElem hi]; exact hS _ (List.getElem_mem hi)
  · rw [List.getD_eq_getElem?_getD, List.getElem?_eq_none (by omega)]; simp
theorem stp_le {S : List (List Int)} (hS : ∀ xs ∈ S, xs.length ≤ LIM) {h g : List Bool} (hl : h.length = g.length) (k : le h g) (i : Nat) (hi : i < h.length) (hg : half S g i → g.getD i false = true) : le (stp S h i) g := by
  unfold stp; split
  · rename_i c
    intro j e
    rw [getD_set h i j hi] at e
    rcases Bool.or_eq_true _ _ ▸ e with e | e
    · exact k j e
    · have : i = j := of_decide_eq_true e
      subst this
      have h1 := getD_lim hS i
      have h2 := cnt_le h (S.getD i [])
      have h3 := cnt_mono hl k (S.getD i [])
      have c2 := c.2.2
      rw [wrap2 _ (by omega)] at c2
      exact hg ⟨by omega, by omega⟩
  · exact k
theorem pass_le {S : List (List Int)} (hS : ∀ xs ∈ S, xs.length ≤ LIM) {g : List Bool} : ∀ (e i : Nat) (h : List Bool), h.length = g.length → le h g → i + e ≤ h.length → (∀ j, i ≤ j → j < i + e → half S g j → g.getD j false = true) → le (passF S e i h) g
  | 0, _, h, _, k, _, _ => k
  | e + 1, i, h, hl, k, hi, hg => pass_le hS e (i + 1) (stp S h i) (by rw [stp_len]; exact hl) (stp_le hS hl k i (by omega) (hg i (by omega) (by omega))) (by rw [stp_len]; omega) (fun j h1 h2 => hg j (by omega) (by omega))
theorem iter_le {S : List (List Int)} (hS : ∀ xs ∈ S, xs.length ≤ LIM) {g : List Bool} (hg : ∀ j, j < min g.length S.length → half S g j → g.getD j false = true) : ∀ (d : Nat) (h : List Bool), h.length = g.length → le h g → le (iterR S d h) g
  | 0, h, _, k => k
  | d + 1, h, hl, k => iter_le hS hg d (rnd S h) (by rw [rnd_len]; exact hl) (by unfold rnd; exact pass_le hS _ _ h hl k (by omega) (fun j _ h2 => hg j (by omega)))
theorem chg_fix (S : List (List Int)) : ∀ (e i : Nat) (h : List Bool), chgF S e i h = false → ∀ j, i ≤ j → j < i + e → stp S h j = h
  | 0, _, _, _, j, h1, h2 => by omega
  | e + 1, i, h, hc, j, h1, h2 => by
    unfold chgF at hc
    have hc2 := Bool.or_eq_false_iff.mp hc
    have e1 : stp S h i = h := by
      have := of_decide_eq_false hc2.1
      exact Classical.byContradiction (fun x => this x)
    by_cases c : j = i
    · rw [c]; exact e1
    · have := chg_fix S e (i + 1) (stp S h i) hc2.2 j (by omega) (by omega)
      rw [e1] at this; exact this
theorem fix_closed {S : List (List Int)} (hS : ∀ xs ∈ S, xs.length ≤ LIM) (h : List Bool) (hf : rnd S h = h) (i : Nat) (hi : i < min h.length S.length) (hh : half S h i) : h.getD i false = true := by
  have pt := pass_tc S (min h.length S.length) 0 h (by omega)
  have hf' : passF S (min h.length S.length) 0 h = h := hf
  have hc : chgF S (min h.length S.length) 0 h = false := by
    cases e : chgF S (min h.length S.length) 0 h with
    | false => rfl
    | true => have := pt.2.1 e; rw [hf'] at this; omega
  have e1 := chg_fix S _ 0 h hc i (by omega) (by omega)
  cases e : h.getD i false with
  | true => rfl
  | false =>
    have h1 := getD_lim hS i
    have h2 := cnt_le h (S.getD i [])
    have e2 : stp S h i = h.set i true := by
      unfold stp
      rw [if_pos ⟨e, by have := hh.1; have := hh.2; omega, by rw [wrap2 _ (by omega)]; have := hh.2; omega⟩]
    have := tc_set h i (by omega) e
    rw [← e2, e1] at this; omega
theorem iniF_ge (n : Nat) : ∀ (xs : List Int) (h : List Bool), le h (iniF n xs h)
  | [], h => le_refl h
  | x :: r, h => by
    unfold iniF
    split
    · exact le_trans (le_set h _) (iniF_ge n r _)
    · exact iniF_ge n r h
theorem iniF_in (n : Nat) : ∀ (xs : List Int) (h : List Bool), h.length = n → (∀ x ∈ xs, 0 ≤ x) → ∀ x ∈ xs, x < (n : Int) → (iniF n xs h).getD x.toNat false = true
  | [], _, _, _, x, hx, _ => by cases hx
  | y :: r, h, hl, h0, x, hx, hn => by
    unfold iniF
    rcases List.mem_cons.mp hx with rfl | hx
    · rw [if_pos hn]
      have := h0 x List.mem_cons_self
      exact iniF_ge n r _ _ (by rw [getD_set h x.toNat x.toNat (by omega)]; simp)
    · exact iniF_in n r _ (by split <;> simp [hl]) (fun z hz => h0 z (List.mem_cons_of_mem _ hz)) x hx hn
theorem iniF_le (n : Nat) {g : List Bool} : ∀ (xs : List Int) (h : List Bool), h.length = n → (∀ x ∈ xs, 0 ≤ x) → le h g → (∀ x ∈ xs, x < (n : Int) → g.getD x.toNat false = true) → le (iniF n xs h) g
  | [], _, _, _, k, _ => k
  | y :: r, h, hl, h0, k, hg => by
    unfold iniF
    have hy := h0 y List.mem_cons_self
    refine iniF_le n r _ (by split <;> simp [hl]) (fun z hz => h0 z (List.mem_cons_of_mem _ hz)) ?_ (fun z hz => hg z (List.mem_cons_of_mem _ hz))
    split
    · rename_i c
      intro j e
      rw [getD_set h y.toNat j (by omega)] at e
      rcases Bool.or_eq_true _ _ ▸ e with e | e
      · exact k j e
      · have : y.toNat = j := of_decide_eq_true e
        rw [← this]; exact hg y List.mem_cons_self c
    · exact k
/-- A set is closed: it contains the faulty nodes, and each node half of whose servers are in it. -/
def Cl (n : Nat) (S : List (List Int)) (l : List S46) (g : List Bool) : Prop := (∀ x ∈ NODES l, x < (n : Int) → g.getD x.toNat false = true) ∧ ∀ i, i < min n S.length → half S g i → g.getD i false = true
theorem uns_closed {n : Nat} {S : List (List Int)} (hS : ∀ xs ∈ S, xs.length ≤ LIM) (l : List S46) : Cl n S l (fin S (ini n l)) := by
  have hl : (fin S (ini n l)).length = n := by unfold fin; rw [iterR_len, ini_len]
  refine ⟨fun x hx hn => ?_, fun i hi hh => fix_closed hS _ (fin_fix S _) i (by rw [hl]; exact hi) hh⟩
  exact iter_ge S _ _ _ (iniF_in n (NODES l) _ (by simp) (fun y hy => (NODES_in l y hy).1) x hx hn)
theorem uns_least {n : Nat} {S : List (List Int)} (hS : ∀ xs ∈ S, xs.length ≤ LIM) (l : List S46) (g : List Bool) (hg : g.length = n) (c : Cl n S l g) : le (fin S (ini n l)) g := by
  unfold fin
  refine iter_le hS (fun j hj => c.2 j (by omega)) _ _ (by rw [ini_len, hg]) ?_
  refine iniF_le n (NODES l) _ (by simp) (fun y hy => (NODES_in l y hy).1) ?_ c.1
  intro i e
  rw [List.getD_eq_getElem?_getD, List.getElem?_replicate] at e
  split at e <;> cases e
/-- The bits of a number, as a set. -/
def tob (n v : Nat) : List Bool := (List.range n).map (fun i => v.testBit i)
theorem tob_len (n v : Nat) : (tob n v).length = n := by unfold tob; simp
theorem tob_get (n v i : Nat) (h : i < n) : (tob n v).getD i false = v.testBit i := by
  unfold tob; rw [List.getD_eq_getElem?_getD, List.getElem?_map, List.getElem?_range h]; rfl
theorem bit_and (v i : Nat) (hv : v < 4294967296) (hi : i < 24) : bits .and .u32 (shr .u32 (v : Int) (i : Int)) 1 = if v.testBit i = true then 1 else 0 := by
  have e1 : shr .u32 (v : Int) (i : Int) = ((v / 2 ^ i : Nat) : Int) := by
    unfold shr
    rw [Int.toNat_natCast, Nat.min_eq_left (by show i ≤ 32; omega)]
    simp
  have hlt : v / 2 ^ i < 2 ^ 32 := Nat.lt_of_le_of_lt (Nat.div_le_self _ _) hv
  have hk : ∀ n : Int, 0 ≤ n → n < 2 ^ 32 → IntKind.u32.wrap n = n := fun n h0 h1 => by rw [IntKind.wrap_u32]; omega
  rw [e1, show (1 : Int) = ((1 : Nat) : Int) from rfl, (bits_nat .u32 32 (by decide) hk (v / 2 ^ i) 1 hlt (by decide)).1, Nat.and_one_is_mod]
  rw [Nat.testBit_eq_decide_div_mod_eq]
  rcases Nat.mod_two_eq_zero_or_one (v / 2 ^ i) with c | c <;> rw [c] <;> rfl
theorem bit_ne (v i : Nat) (hv : v < 4294967296) (hi : i < 24) : (bits .and .u32 (shr .u32 (v : Int) (i : Int)) 1 = 0) = (v.testBit i = false) := by
  rw [bit_and v i hv hi]
  cases v.testBit i <;> simp
theorem bit_eq (v i : Nat) (hv : v < 4294967296) (hi : i < 24) : (bits .and .u32 (shr .u32 (v : Int) (i : Int)) 1 = 1) = (v.testBit i = true) := by
  rw [bit_and v i hv hi]
  cases v.testBit i <;> simp
section
variable {n v : Nat} {S : List (List Int)}
theorem c_l2 (hn : n ≤ 24) (hv : v < 4294967296) (S' : List (List Int)) (i : Nat) (hi : i < 24) (xs : List Int) (hx : xs.length ≤ LIM) (k0 : Nat) : ∀ (d j : Nat), j + d = xs.length →
    timesynclaw55_closed.l2 (k0 + d + 1) n v i xs ((cnt (tob n v) (xs.take j) : Nat) : Int) S' (S'.length : Int) i xs (xs.length : Int) j = if (0 < xs.length ∧ xs.length ≤ 2 * cnt (tob n v) xs) ∧ v.testBit i = false then some false else timesynclaw55_closed.l1 k0 n v S' (S'.length : Int) ((i + 1 : Nat) : Int)
  | 0, j, hj => by
    unfold timesynclaw55_closed.l2
    have hc := cnt_le (tob n v) xs
    rw [if_neg (by omega), List.take_of_length_le (by omega), wrap2 _ (by omega), w1 i (by omega)]
    by_cases c0 : 0 < xs.length
    · rw [if_pos (by omega)]
      by_cases c1 : xs.length ≤ 2 * cnt (tob n v) xs
      · rw [if_pos (by omega), if_pos (by omega)]
        simp only [bit_ne v i hv hi]
        by_cases c2 : v.testBit i = false
        · rw [if_pos c2, if_pos ⟨⟨c0, c1⟩, c2⟩]
        · rw [if_neg c2, if_neg (fun x => c2 x.2)]
      · rw [if_neg (by omega), if_neg (fun x => c1 x.1.2)]
    · rw [if_neg (by omega), if_neg (fun x => c0 x.1.1)]
  | d + 1, j, hj => by
    have hjl : j < xs.length := by omega
    rw [show k0 + (d + 1) + 1 = (k0 + d + 1) + 1 by omega]
    have hc : cnt (tob n v) (xs.take j) ≤ j := Nat.le_trans (cnt_le _ _) (by rw [List.length_take]; omega)
    unfold LIM at hx
    conv => lhs; unfold timesynclaw55_closed.l2
    rw [if_pos (by omega), if_pos (by omega), if_pos (by omega), rd_e _ j hjl, w1 j (by omega), w1 _ (by omega)]
    have ih := c_l2 hn hv S' i hi xs hx k0 d (j + 1) (by omega)
    rw [cnt_snoc (tob n v) xs j hjl] at ih
    by_cases c1 : xs[j] < 0
    · rw [if_pos c1]
      have : hit (tob n v) xs[j] = true := by unfold hit; rw [decide_eq_true c1]; rfl
      rw [if_pos this] at ih; exact ih
    rw [if_neg c1]
    by_cases c2 : xs[j] ≥ (n : Int)
    · rw [if_pos c2]
      have : hit (tob n v) xs[j] = true := by unfold hit; rw [tob_len, decide_eq_true c2, Bool.true_or, Bool.or_true]
      rw [if_pos this] at ih; exact ih
    rw [if_neg c2, if_pos (by omega)]
    obtain ⟨q, hq⟩ : ∃ q : Nat, xs[j] = (q : Int) := ⟨xs[j].toNat, by omega⟩
    have e4 : hit (tob n v) xs[j] = v.testBit q := by unfold hit; rw [tob_len, decide_eq_false c1, decide_eq_false (by omega), Bool.false_or, Bool.false_or, hq, Int.toNat_natCast, tob_get n v q (by omega)]
    rw [e4] at ih
    rw [hq]
    simp only [bit_eq v q hv (by omega)]
    by_cases c3 : v.testBit q = true
    · rw [if_pos c3]; rw [if_pos c3] at ih; exact ih
    · rw [if_neg c3]; rw [if_neg c3, Nat.add_zero] at ih; exact ih
def okB (S : List (List Int)) (n v : Nat) : Nat → Nat → Bool
  | 0, _ => true
  | e + 1, i => if (0 < (S.getD i []).length ∧ (S.getD i []).length ≤ 2 * cnt (tob n v) (S.getD i [])) ∧ v.testBit i = false then false else okB S n v e (i + 1)
theorem c_l1 (hS : ∀ xs ∈ S, xs.length ≤ LIM) (hn : n ≤ 24) (hv : v < 4294967296) (m : Nat) (hm : m = min n S.length) : ∀ (e i : Nat), i + e = m → ∃ c, ∀ k0, timesynclaw55_closed.l1 (k0 + c) n v (S.take m) ((S.take m).length : Int) i = some (okB S n v e i)
  | 0, i, hi => by
    refine ⟨1, fun k0 => ?_⟩
    have hlen : (S.take m).length = m := by rw [List.length_take]; omega
    unfold timesynclaw55_closed.l1
    rw [if_neg (by omega)]; rfl
  | e + 1, i, hi => by
    obtain ⟨c, hc⟩ := c_l1 hS hn hv m hm e (i + 1) (by omega)
    have hlen : (S.take m).length = m := by rw [List.length_take]; omega
    have hg : (S.take m).getD i [] = S.getD i [] := by simp only [List.getD_eq_getElem?_getD, List.getElem?_take]; rw [if_pos (by omega)]
    refine ⟨c + (S.getD i []).length + 1 + 1, fun k0 => ?_⟩
    rw [show k0 + (c + (S.getD i []).length + 1 + 1) = (k0 + c + (S.getD i []).length + 1) + 1 by omega]
    conv => lhs; unfold timesynclaw55_closed.l1
    rw [if_pos (by omega), if_pos (by omega), if_pos (by omega), rdl_e, hg]
    have h2 := c_l2 hn hv (S.take m) i (by omega) (S.getD i []) (getD_lim hS i) (k0 + c) (S.getD i []).length 0 (by omega)
    refine h2.trans ?_
    show _ = some (if (0 < (S.getD i []).length ∧ (S.getD i []).length ≤ 2 * cnt (tob n v) (S.getD i [])) ∧ v.testBit i = false then false else okB S n v e (i + 1))
    split
    · rfl
    · exact hc k0
def nodB (n v : Nat) : List Int → Bool
  | [] => true
  | x :: r => if x < (n : Int) ∧ v.testBit x.toNat = false then false else nodB n v r
theorem c_l0 (hS : ∀ xs ∈ S, xs.length ≤ LIM) (hn : n ≤ 24) (hv : v < 4294967296) (xs : List Int) (hx : ∀ x ∈ xs, 0 ≤ x) (hl : xs.length ≤ 24) : ∀ (d j : Nat), j + d = xs.length → ∃ c, ∀ k0, timesynclaw55_closed.l0 (k0 + c) n S v xs (xs.length : Int) j = some (nodB n v (xs.drop j) && okB S n v (min n S.length) 0)
  | 0, j, hj => by
    obtain ⟨c, hc⟩ := c_l1 hS hn hv (min n S.length) rfl (min n S.length) 0 (by omega)
    refine ⟨c + 1, fun k0 => ?_⟩
    rw [← Nat.add_assoc, List.drop_of_length_le (by omega)]
    have em : mn (S.length : Int) (n : Int) = ((min n S.length : Nat) : Int) := by unfold mn; split <;> omega
    unfold timesynclaw55_closed.l0
    rw [if_neg (by omega), em, if_pos (by omega), if_pos (by omega), Option.bind_some, Int.toNat_natCast]
    show _ = some (true && _)
    rw [Bool.true_and]
    exact hc k0
  | d + 1, j, hj => by
    have hjl : j < xs.length := by omega
    have h0 := hx _ (List.getElem_mem hjl)
    obtain ⟨c, hc⟩ := c_l0 hS hn hv xs hx hl d (j + 1) (by omega)
    refine ⟨c + 1, fun k0 => ?_⟩
    rw [← Nat.add_assoc, List.drop_eq_getElem_cons hjl]
    conv => lhs; unfold timesynclaw55_closed.l0
    rw [if_pos (by omega), if_pos (by omega), if_pos (by omega), rd_e _ j hjl, if_neg (by omega), w1 j (by omega)]
    show _ = some ((if xs[j] < (n : Int) ∧ v.testBit xs[j].toNat = false then false else nodB n v (xs.drop (j + 1))) && _)
    by_cases c1 : xs[j] < (n : Int)
    · rw [if_pos c1, if_pos h0]
      obtain ⟨q, hq⟩ : ∃ q : Nat, xs[j] = (q : Int) := ⟨xs[j].toNat, by omega⟩
      rw [hq, Int.toNat_natCast]
      simp only [bit_ne v q hv (by omega)]
      by_cases c2 : v.testBit q = false
      · rw [if_pos c2, if_pos ⟨by omega, c2⟩]; rfl
      · rw [if_neg c2, if_neg (fun x => c2 x.2)]; exact hc k0
    · rw [if_neg c1, if_neg (fun x => c1 x.1)]; exact hc k0
def clB (n : Nat) (S : List (List Int)) (l : List S46) (v : Nat) : Bool := nodB n v (NODES l) && okB S n v (min n S.length) 0
theorem closed_f (hS : ∀ xs ∈ S, xs.length ≤ LIM) (hn : n ≤ 24) (hv : v < 4294967296) (l : List S46) : ∃ c, ∀ k0, timesynclaw55_closed.f (k0 + c) n S l v = some (clB n S l v) := by
  obtain ⟨c, hc⟩ := c_l0 hS hn hv (NODES l) (fun x hx => (NODES_in l x hx).1) (NODES_len l) (NODES l).length 0 (by omega)
  refine ⟨c + 40, fun k0 => ?_⟩
  unfold timesynclaw55_closed.f
  rw [nodes_f l _ (by omega), Option.bind_some, show k0 + (c + 40) = (k0 + 40) + c by omega]
  exact hc (k0 + 40)
theorem nodB_iff : ∀ (xs : List Int), (∀ x ∈ xs, 0 ≤ x) → (nodB n v xs = true ↔ ∀ x ∈ xs, x < (n : Int) → (tob n v).getD x.toNat false = true)
  | [], _ => ⟨fun _ x hx => (by cases hx), fun _ => rfl⟩
  | y :: r, h0 => by
    have ih := nodB_iff r (fun z hz => h0 z (List.mem_cons_of_mem _ hz))
    have hy := h0 y List.mem_cons_self
    unfold nodB
    by_cases c : y < (n : Int) ∧ v.testBit y.toNat = false
    · rw [if_pos c]
      refine ⟨fun x => (by cases x), fun x => ?_⟩
      have := x y List.mem_cons_self c.1
      rw [tob_get n v _ (by omega), c.2] at this; cases this
    · rw [if_neg c, ih]
      refine ⟨fun x z hz hn => ?_, fun x z hz => x z (List.mem_cons_of_mem _ hz)⟩
      rcases List.mem_cons.mp hz with rfl | hz
      · rw [tob_get n v _ (by omega)]
        cases e : v.testBit z.toNat with
        | true => rfl
        | false => exact absurd ⟨hn, e⟩ c
      · exact x z hz hn
theorem okB_iff (hm : ∀ i, i < min n S.length → i < n) : ∀ (e i : Nat), i + e ≤ n → (okB S n v e i = true ↔ ∀ j, i ≤ j → j < i + e → half S (tob n v) j → (tob n v).getD j false = true)
  | 0, i, _ => ⟨fun _ j h1 h2 => (by omega), fun _ => rfl⟩
  | e + 1, i, hi => by
    have ih := okB_iff hm e (i + 1) (by omega)
    unfold okB
    by_cases c : (0 < (S.getD i []).length ∧ (S.getD i []).length ≤ 2 * cnt (tob n v) (S.getD i [])) ∧ v.testBit i = false
    · rw [if_pos c]
      refine ⟨fun x => (by cases x), fun x => ?_⟩
      have := x i (Nat.le_refl _) (by omega) c.1
      rw [tob_get n v i (by omega), c.2] at this; cases this
    · rw [if_neg c, ih]
      refine ⟨fun x j h1 h2 hh => ?_, fun x j h1 h2 => x j (by omega) (by omega)⟩
      by_cases cj : j = i
      · subst cj
        rw [tob_get n v _ (by omega)]
        cases e : v.testBit j with
        | true => rfl
        | false => exact absurd ⟨hh, e⟩ c
      · exact x j (by omega) (by omega) hh
theorem clB_iff (l : List S46) : clB n S l v = true ↔ Cl n S l (tob n v) := by
  unfold clB Cl
  rw [Bool.and_eq_true, nodB_iff (NODES l) (fun x hx => (NODES_in l x hx).1), okB_iff (fun i hi => by omega) (min n S.length) 0 (by omega)]
  exact ⟨fun x => ⟨x.1, fun i hi hh => x.2 i (by omega) (by omega) hh⟩, fun x => ⟨x.1, fun j _ h2 hh => x.2 j (by omega) hh⟩⟩
end
end Go.Proofs.Ytcnckfhibmlioaa.Fa
