/- Unsound, of the program and of the reference, without any program: one set of nodes, the faulty ones and what follows from them. -/
import Derived.Test.YtcnckfhibmlioaaFaChk
import Derived.Test.YtcnckfhibmlioaaPFax11
namespace Go.Proofs.Ytcnckfhibmlioaa.Fa
open Go Go.RowKit Go.Proofs.Ytcnckfhibmlioaa.PFa Go.Proofs.Ytcnckfhibmlioaa.Ob Go.Proofs.YtcnckfhibmlioaaW.PrintWords
set_option linter.unusedVariables false
set_option linter.unusedSimpArgs false
/-- This server is in the set (or is none of the nodes). -/
def hit (h : List Bool) (s : Int) : Bool := decide (s < 0) || (decide ((h.length : Int) ≤ s) || h.getD s.toNat false)
def cnt (h : List Bool) (xs : List Int) : Nat := xs.countP (hit h)
theorem cnt_le (h : List Bool) (xs : List Int) : cnt h xs ≤ xs.length := List.countP_le_length
theorem cnt_snoc (h : List Bool) (xs : List Int) (j : Nat) (hj : j < xs.length) : cnt h (xs.take (j + 1)) = cnt h (xs.take j) + if hit h xs[j] = true then 1 else 0 := by
  unfold cnt
  rw [List.take_succ_eq_append_getElem hj, List.countP_append, List.countP_cons, List.countP_nil, Nat.zero_add]
/-- What one node's servers make of the set. -/
def stp (S : List (List Int)) (h : List Bool) (i : Nat) : List Bool :=
  if h.getD i false = false ∧ 0 < cnt h (S.getD i []) ∧ ((S.getD i []).length : Int) ≤ wrap64 (2 * ((cnt h (S.getD i []) : Nat) : Int)) then h.set i true else h
theorem stp_len (S : List (List Int)) (h : List Bool) (i : Nat) : (stp S h i).length = h.length := by
  unfold stp; split
  · rw [List.length_set]
  · rfl
def passF (S : List (List Int)) : Nat → Nat → List Bool → List Bool
  | 0, _, h => h
  | e + 1, i, h => passF S e (i + 1) (stp S h i)
theorem passF_len (S : List (List Int)) : ∀ (e i : Nat) (h : List Bool), (passF S e i h).length = h.length
  | 0, _, _ => rfl
  | e + 1, i, h => by unfold passF; rw [passF_len S e, stp_len]
def chgF (S : List (List Int)) : Nat → Nat → List Bool → Bool
  | 0, _, _ => false
  | e + 1, i, h => (decide (stp S h i ≠ h)) || chgF S e (i + 1) (stp S h i)
/-- How many nodes are in the set. -/
def tc (h : List Bool) : Nat := h.count true
theorem tc_le (h : List Bool) : tc h ≤ h.length := List.count_le_length
theorem tc_set (h : List Bool) (i : Nat) (hi : i < h.length) (hb : h.getD i false = false) : tc (h.set i true) = tc h + 1 := by
  unfold tc
  have e : h[i] = false := by rw [List.getD_eq_getElem?_getD, List.getElem?_eq_getElem hi] at hb; exact hb
  rw [List.count_set hi, e]; simp
theorem stp_tc (S : List (List Int)) (h : List Bool) (i : Nat) (hi : i < h.length) : stp S h i = h ∨ tc (stp S h i) = tc h + 1 := by
  unfold stp; split
  · rename_i c; exact .inr (tc_set h i hi c.1)
  · exact .inl rfl
theorem pass_tc (S : List (List Int)) : ∀ (e i : Nat) (h : List Bool), i + e ≤ h.length → tc h ≤ tc (passF S e i h) ∧ (chgF S e i h = true → tc h < tc (passF S e i h)) ∧ (chgF S e i h = false → passF S e i h = h)
  | 0, _, _, _ => ⟨Nat.le_refl _, (fun h => by cases h), (fun _ => rfl)⟩
  | e + 1, i, h, hi => by
    have ih := pass_tc S e (i + 1) (stp S h i) (by rw [stp_len]; omega)
    unfold passF chgF
    rcases stp_tc S h i (by omega) with c | c
    · rw [c] at ih ⊢
      simp only [ne_eq, not_true_eq_false, decide_false, Bool.false_or]
      exact ih
    · have hne : stp S h i ≠ h := fun e => by rw [e] at c; omega
      rw [decide_eq_true hne, Bool.true_or]
      exact ⟨by omega, (fun _ => by omega), (fun h => by cases h)⟩
/-- One round over all nodes that have servers. -/
def rnd (S : List (List Int)) (h : List Bool) : List Bool := passF S (min h.length S.length) 0 h
theorem rnd_len (S : List (List Int)) (h : List Bool) : (rnd S h).length = h.length := passF_len S _ _ _
def iterR (S : List (List Int)) : Nat → List Bool → List Bool
  | 0, h => h
  | j + 1, h => iterR S j (rnd S h)
theorem iterR_len (S : List (List Int)) : ∀ (j : Nat) (h : List Bool), (iterR S j h).length = h.length
  | 0, _ => rfl
  | j + 1, h => by unfold iterR; rw [iterR_len S j, rnd_len]
theorem iter_fix (S : List (List Int)) (h : List Bool) (e : rnd S h = h) : ∀ j, iterR S j h = h
  | 0 => rfl
  | j + 1 => by unfold iterR; rw [e]; exact iter_fix S h e j
/-- The set at the end: as many rounds as there are nodes. -/
def fin (S : List (List Int)) (h : List Bool) : List Bool := iterR S h.length h
theorem iter_end (S : List (List Int)) : ∀ (d j : Nat) (h : List Bool), h.length - tc h ≤ j → rnd S (iterR S j h) = iterR S j h
  | d, 0, h, hd => by
    have hle := tc_le h
    show rnd S h = h
    have := pass_tc S (min h.length S.length) 0 h (by omega)
    have hl := tc_le (passF S (min h.length S.length) 0 h)
    rw [passF_len] at hl
    by_cases c : chgF S (min h.length S.length) 0 h = true
    · have := this.2.1 c; omega
    · exact this.2.2 (by simpa using c)
  | d, j + 1, h, hd => by
    show rnd S (iterR S j (rnd S h)) = iterR S j (rnd S h)
    have := pass_tc S (min h.length S.length) 0 h (by omega)
    by_cases c : chgF S (min h.length S.length) 0 h = true
    · have h1 := this.2.1 c
      exact iter_end S d j (rnd S h) (by rw [rnd_len]; unfold rnd; omega)
    · have e : rnd S h = h := this.2.2 (by simpa using c)
      rw [e, iter_fix S h e j, e]
theorem fin_fix (S : List (List Int)) (h : List Bool) : rnd S (fin S h) = fin S h := iter_end S 0 h.length h (by omega)
theorem fin_rnd (S : List (List Int)) (h : List Bool) : fin S (rnd S h) = fin S h := by
  unfold fin
  rw [rnd_len]
  have h1 : iterR S h.length (rnd S h) = iterR S (h.length + 1) h := rfl
  have : ∀ (j : Nat) (h : List Bool), iterR S (j + 1) h = rnd S (iterR S j h) := by
    intro j; induction j with
    | zero => intro h; rfl
    | succ j ih => intro h; show iterR S (j + 1) (rnd S h) = _; rw [ih]; rfl
  rw [h1, this]
  exact iter_end S 0 h.length h (by omega)
/-- The faulty nodes below n. -/
def iniF (n : Nat) : List Int → List Bool → List Bool
  | [], h => h
  | x :: r, h => iniF n r (if x < (n : Int) then h.set x.toNat true else h)
theorem iniF_len (n : Nat) : ∀ (xs : List Int) (h : List Bool), (iniF n xs h).length = h.length
  | [], _ => rfl
  | x :: r, h => by
    unfold iniF; rw [iniF_len n r]
    split
    · rw [List.length_set]
    · rfl
def ini (n : Nat) (l : List S46) : List Bool := iniF n (NODES l) (List.replicate n false)
theorem ini_len (n : Nat) (l : List S46) : (ini n l).length = n := by unfold ini; rw [iniF_len, List.length_replicate]
/-- The unsound nodes. -/
def UNS (n : Int) (S : List (List Int)) (l : List S46) : List Int := if n < 1 ∨ 24 < n then [] else pickL (fin S (ini n.toNat l)) n.toNat
theorem rd_e (xs : List Int) (j : Nat) (hj : j < xs.length) : rd xs (j : Int) = xs[j] := by
  unfold rd; rw [Int.toNat_natCast, List.getD_eq_getElem?_getD, List.getElem?_eq_getElem hj]; rfl
theorem rdb_e (h : List Bool) (j : Nat) : rdOf false h (j : Int) = h.getD j false := by unfold rdOf; rw [Int.toNat_natCast]
theorem rdl_e (S : List (List Int)) (j : Nat) : rd_L4 S (j : Int) = S.getD j [] := by unfold rd_L4; rw [Int.toNat_natCast]
theorem w1 (i : Nat) (h : i ≤ 9223372036854775806) : wrap64 ((i : Int) + 1) = ((i + 1 : Nat) : Int) := by rw [w64_in (by omega) (by omega)]; omega
def BIG : Nat := 9223372036854775807
section
variable {n : Nat} {S : List (List Int)}
theorem p_l3 (hS : ∀ xs ∈ S, xs.length ≤ BIG) (hn : n ≤ 24) (i : Nat) (hi : i < n) (hiS : i < S.length) (h : List Bool) (hh : h.length = n) (ag : Bool) (k0 : Nat) : ∀ (d j : Nat), j + d = (S.getD i []).length →
    fault_Unsound.l3 (k0 + d + 1) n S h ag i ((cnt h ((S.getD i []).take j) : Nat) : Int) (S.getD i []) ((S.getD i []).length : Int) j = fault_Unsound.l2 k0 n S (stp S h i) (ag || decide (stp S h i ≠ h)) ((i + 1 : Nat) : Int) := by
  have hxs : (S.getD i []).length ≤ BIG := by
    rw [List.getD_eq_getElem?_getD, List.getElem?_eq_getElem hiS]; exact hS _ (List.getElem_mem hiS)
  intro d
  induction d with
  | zero =>
    intro j hj
    unfold fault_Unsound.l3
    rw [if_neg (by omega), if_pos (by omega), if_pos (by omega), rdb_e, List.take_of_length_le (by omega), w1 i (by omega)]
    have hc := cnt_le h (S.getD i [])
    by_cases hb : h.getD i false = true
    · have e : stp S h i = h := by unfold stp; rw [if_neg (fun c => by rw [c.1] at hb; cases hb)]
      rw [if_pos hb, e]; simp
    · have hb' : h.getD i false = false := by simpa using hb
      rw [if_neg hb]
      by_cases c0 : 0 < cnt h (S.getD i [])
      · rw [if_pos (by omega), if_pos (by omega), rdl_e]
        by_cases c1 : ((S.getD i []).length : Int) ≤ wrap64 (2 * ((cnt h (S.getD i []) : Nat) : Int))
        · have e : stp S h i = h.set i true := by unfold stp; rw [if_pos ⟨hb', c0, c1⟩]
          have hne : h.set i true ≠ h := fun e2 => by have := tc_set h i (by omega) hb'; rw [e2] at this; omega
          rw [if_pos c1, e, decide_eq_true hne, Bool.or_true, Int.toNat_natCast]
        · have e : stp S h i = h := by unfold stp; rw [if_neg (fun c => c1 c.2.2)]
          rw [if_neg c1, e]; simp
      · have e : stp S h i = h := by unfold stp; rw [if_neg (fun c => c0 c.2.1)]
        rw [if_neg (by omega), e]; simp
  | succ d ih =>
    intro j hj
    have hjl : j < (S.getD i []).length := by omega
    have e : k0 + (d + 1) + 1 = (k0 + d + 1) + 1 := by omega
    have hc : cnt h ((S.getD i []).take j) ≤ j := Nat.le_trans (cnt_le _ _) (by rw [List.length_take]; omega)
    rw [e]
    conv => lhs; unfold fault_Unsound.l3
    rw [if_pos (by omega), if_pos (by omega), if_pos (by omega), rd_e _ j hjl, w1 j (by unfold BIG at hxs; omega), w1 _ (by unfold BIG at hxs; omega)]
    have hs := cnt_snoc h (S.getD i []) j hjl
    have ih1 := ih (j + 1) (by omega)
    rw [hs] at ih1
    by_cases c1 : (S.getD i [])[j] < 0
    · rw [if_pos c1]
      have : hit h (S.getD i [])[j] = true := by unfold hit; rw [decide_eq_true c1]; rfl
      rw [if_pos this] at ih1; exact ih1
    rw [if_neg c1]
    by_cases c2 : (S.getD i [])[j] ≥ (n : Int)
    · rw [if_pos c2]
      have : hit h (S.getD i [])[j] = true := by unfold hit; rw [hh, decide_eq_true c2, Bool.true_or, Bool.or_true]
      rw [if_pos this] at ih1; exact ih1
    rw [if_neg c2, if_pos (by omega), if_pos (by omega)]
    have e3 : rdOf false h (S.getD i [])[j] = h.getD (S.getD i [])[j].toNat false := rfl
    have e4 : hit h (S.getD i [])[j] = h.getD (S.getD i [])[j].toNat false := by unfold hit; rw [hh, decide_eq_false c1, decide_eq_false (by omega), Bool.false_or, Bool.false_or]
    rw [e3]
    rw [e4] at ih1
    by_cases c3 : h.getD (S.getD i [])[j].toNat false = true
    · rw [if_pos c3]; rw [if_pos c3] at ih1; exact ih1
    · rw [if_neg c3]; rw [if_neg c3, Nat.add_zero] at ih1; exact ih1
theorem p_l2 (hS : ∀ xs ∈ S, xs.length ≤ BIG) (hn : n ≤ 24) : ∀ (e i : Nat) (h : List Bool) (ag : Bool), h.length = n → i + e = min n S.length →
    ∃ c, ∀ k0, fault_Unsound.l2 (k0 + c) n S h ag i = fault_Unsound.l1 k0 n S (passF S e i h) (ag || chgF S e i h)
  | 0, i, h, ag, hh, hi => by
    refine ⟨2, fun k0 => ?_⟩
    have hj : fault_Unsound.j4 (k0 + 1) n S h ag i false = fault_Unsound.l1 k0 n S h ag := by unfold fault_Unsound.j4; rw [if_neg (by simp)]
    show fault_Unsound.l2 (k0 + 1 + 1) n S h ag i = _
    unfold fault_Unsound.l2 passF chgF
    rw [Bool.or_false]
    by_cases c : (i : Int) < (n : Int)
    · rw [if_pos c, decide_eq_false (by omega)]; exact hj
    · rw [if_neg c]; exact hj
  | e + 1, i, h, ag, hh, hi => by
    obtain ⟨c, hc⟩ := p_l2 hS hn e (i + 1) (stp S h i) (ag || decide (stp S h i ≠ h)) (by rw [stp_len]; exact hh) (by omega)
    refine ⟨c + (S.getD i []).length + 1 + 2, fun k0 => ?_⟩
    have ek : k0 + (c + (S.getD i []).length + 1 + 2) = ((k0 + c) + (S.getD i []).length + 1) + 1 + 1 := by omega
    rw [ek]
    unfold fault_Unsound.l2
    rw [if_pos (by omega), decide_eq_true (by omega)]
    unfold fault_Unsound.j4
    rw [if_pos rfl, if_pos (by omega), if_pos (by omega), rdl_e]
    have h3 := p_l3 hS hn i (by omega) (by omega) h hh ag (k0 + c) (S.getD i []).length 0 (by omega)
    have e0 : ((cnt h ((S.getD i []).take 0) : Nat) : Int) = 0 := rfl
    rw [e0] at h3
    refine h3.trans ?_
    rw [hc k0, Bool.or_assoc]
    rfl
theorem p_l4 (h : List Bool) (hh : h.length = n) (hn : n ≤ 24) : ∀ (d m k0 : Nat), m + d = n → fault_Unsound.l4 (k0 + d + 1) (pickL h m) h (h.length : Int) m = some (pickL h n)
  | 0, m, k0, hm => by
    unfold fault_Unsound.l4
    rw [if_neg (by omega)]
    obtain rfl : m = n := by omega
    rfl
  | d + 1, m, k0, hm => by
    have e : k0 + (d + 1) + 1 = (k0 + d + 1) + 1 := by omega
    rw [e]
    conv => lhs; unfold fault_Unsound.l4
    have hl := pickL_len h m
    rw [if_pos (by omega), if_pos (by omega), if_pos (by omega), rdb_e, w1 m (by omega)]
    by_cases c : h.getD m false = true
    · rw [if_pos c, if_pos (by omega), ← pickL_yes h m c]; exact p_l4 h hh hn d (m + 1) k0 (by omega)
    · rw [if_neg c, ← pickL_no h m (by simpa using c)]; exact p_l4 h hh hn d (m + 1) k0 (by omega)
theorem p_l1 (hS : ∀ xs ∈ S, xs.length ≤ BIG) (hn : n ≤ 24) : ∀ (d : Nat) (h : List Bool), h.length = n → n - tc h ≤ d → ∃ c, ∀ k0, fault_Unsound.l1 (k0 + c) n S h true = some (pickL (fin S h) n)
  | d, h, hh, hd => by
    obtain ⟨c, hc⟩ := p_l2 hS hn (min n S.length) 0 h false hh (by omega)
    have er : passF S (min n S.length) 0 h = rnd S h := by unfold rnd; rw [hh]
    have pt := pass_tc S (min n S.length) 0 h (by omega)
    have st : ∀ k0, fault_Unsound.l1 (k0 + c + 1) n S h true = fault_Unsound.l1 k0 n S (rnd S h) (chgF S (min n S.length) 0 h) := by
      intro k0
      conv => lhs; unfold fault_Unsound.l1
      rw [if_pos rfl]
      refine (hc k0).trans ?_
      rw [er, Bool.false_or]
    by_cases cg : chgF S (min n S.length) 0 h = true
    · rw [er] at pt
      have h1 := pt.2.1 cg
      have h2 := tc_le (rnd S h)
      rw [rnd_len, hh] at h2
      match d, hd with
      | 0, hd => omega
      | d + 1, hd =>
        obtain ⟨c2, hc2⟩ := p_l1 hS hn d (rnd S h) (by rw [rnd_len]; exact hh) (by omega)
        refine ⟨c2 + c + 1, fun k0 => ?_⟩
        have := st (k0 + c2)
        rw [show k0 + (c2 + c + 1) = k0 + c2 + c + 1 by omega, this, cg, hc2 k0, fin_rnd]
    · have cg' : chgF S (min n S.length) 0 h = false := by simpa using cg
      have e : rnd S h = h := by rw [← er]; exact pt.2.2 cg'
      have ef : fin S h = h := iter_fix S h e _
      refine ⟨n + 2 + c + 1, fun k0 => ?_⟩
      rw [show k0 + (n + 2 + c + 1) = (k0 + n + 1 + 1) + c + 1 by omega, st, cg', e, ef]
      unfold fault_Unsound.l1
      rw [if_neg (by simp)]
      exact p_l4 h hh hn n 0 k0 (by omega)
theorem p_l0 (hS : ∀ xs ∈ S, xs.length ≤ BIG) (hn : n ≤ 24) (xs : List Int) (hx : ∀ x ∈ xs, 0 ≤ x) (hl : xs.length ≤ 24) : ∀ (d j : Nat) (h : List Bool), h.length = n → j + d = xs.length →
    ∃ c, ∀ k0, fault_Unsound.l0 (k0 + c) n S h xs (xs.length : Int) j = some (pickL (fin S (iniF n (xs.drop j) h)) n)
  | 0, j, h, hh, hj => by
    obtain ⟨c, hc⟩ := p_l1 hS hn n h hh (by omega)
    refine ⟨c + 1, fun k0 => ?_⟩
    rw [← Nat.add_assoc, List.drop_of_length_le (by omega)]
    unfold fault_Unsound.l0 iniF
    rw [if_neg (by omega)]
    exact hc k0
  | d + 1, j, h, hh, hj => by
    have hjl : j < xs.length := by omega
    have h0 := hx _ (List.getElem_mem hjl)
    rw [List.drop_eq_getElem_cons hjl]
    unfold iniF
    by_cases c : xs[j] < (n : Int)
    · obtain ⟨c1, hc⟩ := p_l0 hS hn xs hx hl d (j + 1) (h.set xs[j].toNat true) (by rw [List.length_set]; exact hh) (by omega)
      refine ⟨c1 + 1, fun k0 => ?_⟩
      rw [← Nat.add_assoc]
      unfold fault_Unsound.l0
      rw [if_pos (by omega), if_pos (by omega), if_pos (by omega), rd_e _ j hjl, if_pos c, if_pos h0, if_pos (by omega), w1 j (by omega), hc k0, if_pos c]
    · obtain ⟨c1, hc⟩ := p_l0 hS hn xs hx hl d (j + 1) h hh (by omega)
      refine ⟨c1 + 1, fun k0 => ?_⟩
      rw [← Nat.add_assoc]
      unfold fault_Unsound.l0
      rw [if_pos (by omega), if_pos (by omega), if_pos (by omega), rd_e _ j hjl, if_neg c, w1 j (by omega), hc k0, if_neg c]
end
theorem NODES_in (l : List S46) : ∀ x ∈ NODES l, 0 ≤ x ∧ x ≤ 23 := by
  intro x hx
  unfold NODES at hx
  by_cases h : CHK l = 0
  · rw [if_pos h] at hx
    obtain ⟨j, hj, rfl⟩ := List.mem_map.mp hx
    have := List.mem_range.mp (List.mem_filter.mp hj).1
    omega
  · rw [if_neg h] at hx; cases hx
theorem unsound_f (n : Int) (S : List (List Int)) (l : List S46) (hS : ∀ xs ∈ S, xs.length ≤ BIG) : ∃ c, ∀ k0, fault_Unsound.f (k0 + c) n S l = some (UNS n S l) := by
  unfold UNS
  by_cases h1 : n < 1
  · refine ⟨1, fun k0 => ?_⟩
    rw [if_pos (Or.inl h1)]
    unfold fault_Unsound.f
    rw [if_pos h1, fault_Unsound.j0, if_pos rfl]
  by_cases h2 : 24 < n
  · refine ⟨1, fun k0 => ?_⟩
    rw [if_pos (Or.inr h2)]
    unfold fault_Unsound.f
    rw [if_neg h1, decide_eq_true h2, fault_Unsound.j0, if_pos rfl]
  obtain ⟨m, rfl⟩ : ∃ m : Nat, n = m := ⟨n.toNat, by omega⟩
  obtain ⟨c, hc⟩ := p_l0 (n := m) hS (by omega) (NODES l) (fun x hx => (NODES_in l x hx).1) (NODES_len l) (NODES l).length 0 (List.replicate m false) (by simp) (by omega)
  refine ⟨c + 40, fun k0 => ?_⟩
  rw [if_neg (fun e => e.elim h1 h2), Int.toNat_natCast]
  unfold fault_Unsound.f
  rw [if_neg h1, show decide ((m : Int) > 24) = false from decide_eq_false h2, show k0 + (c + 40) = (k0 + 39 + c) + 1 by omega, fault_Unsound.j0, if_neg (by simp), if_pos (by omega), Int.toNat_natCast, if_pos (by omega), nodes_f l _ (by omega), Option.bind_some]
  exact hc (k0 + 39)
section
variable {n : Nat} {S : List (List Int)}
theorem count_l0 (h : List Bool) (xs : List Int) (hx : xs.length ≤ BIG) : ∀ (k j : Nat), xs.length - j < k → j ≤ xs.length → timesyncref55_count.l0 k h xs ((cnt h (xs.take j) : Nat) : Int) j = some ((cnt h xs : Nat) : Int)
  | 0, j, hk, _ => by omega
  | k + 1, j, hk, hj => by
    unfold timesyncref55_count.l0
    by_cases hjl : j < xs.length
    · have hc : cnt h (xs.take j) ≤ j := Nat.le_trans (cnt_le _ _) (by rw [List.length_take]; omega)
      rw [if_pos (by omega), if_pos (by omega), rd_e _ j hjl, w1 j (by unfold BIG at hx; omega), w1 _ (by unfold BIG at hx; omega)]
      have ih := count_l0 h xs hx k (j + 1) (by omega) (by omega)
      rw [cnt_snoc h xs j hjl] at ih
      by_cases c1 : xs[j] < 0
      · rw [if_pos c1]
        have : hit h xs[j] = true := by unfold hit; rw [decide_eq_true c1]; rfl
        rw [if_pos this] at ih; exact ih
      rw [if_neg c1]
      by_cases c2 : xs[j] ≥ (h.length : Int)
      · rw [if_pos c2]
        have : hit h xs[j] = true := by unfold hit; rw [decide_eq_true c2, Bool.true_or, Bool.or_true]
        rw [if_pos this] at ih; exact ih
      rw [if_neg c2, if_pos (by omega), if_pos (by omega)]
      have e3 : rdOf false h xs[j] = h.getD xs[j].toNat false := rfl
      have e4 : hit h xs[j] = h.getD xs[j].toNat false := by unfold hit; rw [decide_eq_false c1, decide_eq_false (by omega), Bool.false_or, Bool.false_or]
      rw [e3]
      rw [e4] at ih
      by_cases c3 : h.getD xs[j].toNat false = true
      · rw [if_pos c3]; rw [if_pos c3] at ih; exact ih
      · rw [if_neg c3]; rw [if_neg c3, Nat.add_zero] at ih; exact ih
    · rw [if_neg (by omega), List.take_of_length_le (by omega)]
theorem count_f (h : List Bool) (xs : List Int) (hx : xs.length ≤ BIG) (k : Nat) (hk : xs.length < k) : timesyncref55_count.f k h xs = some ((cnt h xs : Nat) : Int) := count_l0 h xs hx k 0 (by omega) (by omega)
theorem set_same (h : List Bool) (i : Nat) (e : h.getD i false = true) : h.set i true = h := by
  by_cases hi : i < h.length
  · have e1 : h[i] = true := by rw [List.getD_eq_getElem?_getD, List.getElem?_eq_getElem hi] at e; exact e
    conv => lhs; rw [← e1]
    exact List.set_getElem_self hi
  · rw [List.getD_eq_getElem?_getD, List.getElem?_eq_none (by omega)] at e; cases e
theorem r_l2 (hS : ∀ xs ∈ S, xs.length ≤ BIG) (hn : n ≤ 24) (q : Nat) (hq : q ≤ 24) : ∀ (e i : Nat) (h : List Bool), h.length = n → i + e = min n S.length →
    ∀ k0, BIG < k0 → timesyncref55_Unsound.l2 (k0 + 2 * e + 2) n S h q i = timesyncref55_Unsound.l1 k0 n S (passF S e i h) ((q + 1 : Nat) : Int)
  | 0, i, h, hh, hi, k0, hk => by
    have hj : timesyncref55_Unsound.j4 (k0 + 1) n S h q i false = timesyncref55_Unsound.l1 k0 n S h ((q + 1 : Nat) : Int) := by unfold timesyncref55_Unsound.j4; rw [if_neg (by simp), w1 q (by omega)]
    show timesyncref55_Unsound.l2 (k0 + 1 + 1) n S h q i = _
    unfold timesyncref55_Unsound.l2 passF
    by_cases c : (i : Int) < (n : Int)
    · rw [if_pos c, decide_eq_false (by omega)]; exact hj
    · rw [if_neg c]; exact hj
  | e + 1, i, h, hh, hi, k0, hk => by
    have hend := r_l2 hS hn q hq e (i + 1) (stp S h i) (by rw [stp_len]; exact hh) (by omega) k0 hk
    have hiS : i < S.length := by omega
    have hxs : (S.getD i []).length ≤ BIG := by
      rw [List.getD_eq_getElem?_getD, List.getElem?_eq_getElem hiS]; exact hS _ (List.getElem_mem hiS)
    have hcl := cnt_le h (S.getD i [])
    rw [show k0 + 2 * (e + 1) + 2 = (k0 + 2 * e + 2 + 1) + 1 by omega]
    unfold timesyncref55_Unsound.l2
    rw [if_pos (by omega), decide_eq_true (by omega)]
    unfold timesyncref55_Unsound.j4
    rw [if_pos rfl, if_pos (by omega), if_pos (by omega), rdl_e, w1 i (by omega)]
    unfold passF
    by_cases c0 : ((S.getD i []).length : Int) > 0
    · rw [if_pos c0, count_f h _ hxs _ (by omega), Option.bind_some]
      by_cases c1 : ((S.getD i []).length : Int) ≤ wrap64 (2 * ((cnt h (S.getD i []) : Nat) : Int))
      · rw [if_pos c1, if_pos (by omega), Int.toNat_natCast]
        have hpos : 0 < cnt h (S.getD i []) := by
          rcases Nat.eq_zero_or_pos (cnt h (S.getD i [])) with z | z
          · rw [z] at c1
            have hz : wrap64 (2 * ((0 : Nat) : Int)) = 0 := by unfold wrap64; omega
            omega
          · exact z
        have e1 : stp S h i = h.set i true := by
          unfold stp
          by_cases hb : h.getD i false = true
          · rw [if_neg (fun c => by rw [c.1] at hb; cases hb), set_same h i hb]
          · rw [if_pos ⟨by simpa using hb, hpos, c1⟩]
        rw [← e1]; exact hend
      · rw [if_neg c1]
        have e1 : stp S h i = h := by unfold stp; rw [if_neg (fun c => c1 c.2.2)]
        rw [e1] at hend ⊢; exact hend
    · rw [if_neg c0]
      have e1 : stp S h i = h := by unfold stp; rw [if_neg (fun c => by have := c.2.1; omega)]
      rw [e1] at hend ⊢; exact hend
theorem r_l3 (h : List Bool) (hh : h.length = n) (hn : n ≤ 24) : ∀ (d m k0 : Nat), m + d = n → timesyncref55_Unsound.l3 (k0 + d + 1) n h (pickL h m) m = some (pickL h n)
  | 0, m, k0, hm => by
    unfold timesyncref55_Unsound.l3
    rw [if_neg (by omega)]
    obtain rfl : m = n := by omega
    rfl
  | d + 1, m, k0, hm => by
    rw [show k0 + (d + 1) + 1 = (k0 + d + 1) + 1 by omega]
    conv => lhs; unfold timesyncref55_Unsound.l3
    have hl := pickL_len h m
    rw [if_pos (by omega), if_pos (by omega), if_pos (by omega), rdb_e, w1 m (by omega)]
    by_cases c : h.getD m false = true
    · rw [if_pos c, if_pos (by omega), ← pickL_yes h m c]; exact r_l3 h hh hn d (m + 1) k0 (by omega)
    · rw [if_neg c, ← pickL_no h m (by simpa using c)]; exact r_l3 h hh hn d (m + 1) k0 (by omega)
theorem r_l1 (hS : ∀ xs ∈ S, xs.length ≤ BIG) (hn : n ≤ 24) : ∀ (d q : Nat) (h : List Bool), h.length = n → q + d = n → ∃ c, ∀ k0, BIG < k0 → timesyncref55_Unsound.l1 (k0 + c) n S h q = some (pickL (iterR S d h) n)
  | 0, q, h, hh, hq => by
    refine ⟨n + 2, fun k0 hk => ?_⟩
    rw [show k0 + (n + 2) = (k0 + n + 1) + 1 by omega]
    unfold timesyncref55_Unsound.l1
    rw [if_neg (by omega)]
    exact r_l3 h hh hn n 0 k0 (by omega)
  | d + 1, q, h, hh, hq => by
    obtain ⟨c, hc⟩ := r_l1 hS hn d (q + 1) (rnd S h) (by rw [rnd_len]; exact hh) (by omega)
    refine ⟨c + 2 * (min n S.length) + 2 + 1, fun k0 hk => ?_⟩
    rw [show k0 + (c + 2 * (min n S.length) + 2 + 1) = (k0 + c + 2 * (min n S.length) + 2) + 1 by omega]
    unfold timesyncref55_Unsound.l1
    rw [if_pos (by omega)]
    have h2 := r_l2 hS hn q (by omega) (min n S.length) 0 h hh (by omega) (k0 + c) (by omega)
    have er : passF S (min n S.length) 0 h = rnd S h := by unfold rnd; rw [hh]
    rw [er] at h2
    refine h2.trans ?_
    exact hc k0 hk
theorem r_l0 (hS : ∀ xs ∈ S, xs.length ≤ BIG) (hn : n ≤ 24) (xs : List Int) (hx : ∀ x ∈ xs, 0 ≤ x) (hl : xs.length ≤ 24) : ∀ (d j : Nat) (h : List Bool), h.length = n → j + d = xs.length →
    ∃ c, ∀ k0, BIG < k0 → timesyncref55_Unsound.l0 (k0 + c) n S h xs j = some (pickL (fin S (iniF n (xs.drop j) h)) n)
  | 0, j, h, hh, hj => by
    obtain ⟨c, hc⟩ := r_l1 hS hn n 0 h hh (by omega)
    refine ⟨c + 1, fun k0 hk => ?_⟩
    rw [← Nat.add_assoc, List.drop_of_length_le (by omega)]
    unfold timesyncref55_Unsound.l0 iniF
    rw [if_neg (by omega)]
    have e : fin S h = iterR S n h := by unfold fin; rw [hh]
    rw [e]
    exact hc k0 hk
  | d + 1, j, h, hh, hj => by
    have hjl : j < xs.length := by omega
    have h0 := hx _ (List.getElem_mem hjl)
    rw [List.drop_eq_getElem_cons hjl]
    unfold iniF
    by_cases c : xs[j] < (n : Int)
    · obtain ⟨c1, hc⟩ := r_l0 hS hn xs hx hl d (j + 1) (h.set xs[j].toNat true) (by rw [List.length_set]; exact hh) (by omega)
      refine ⟨c1 + 1, fun k0 hk => ?_⟩
      rw [← Nat.add_assoc]
      unfold timesyncref55_Unsound.l0
      rw [if_pos (by omega), if_pos (by omega), rd_e _ j hjl, if_pos c, if_pos h0, if_pos (by omega), w1 j (by omega), hc k0 hk, if_pos c]
    · obtain ⟨c1, hc⟩ := r_l0 hS hn xs hx hl d (j + 1) h hh (by omega)
      refine ⟨c1 + 1, fun k0 hk => ?_⟩
      rw [← Nat.add_assoc]
      unfold timesyncref55_Unsound.l0
      rw [if_pos (by omega), if_pos (by omega), rd_e _ j hjl, if_neg c, w1 j (by omega), hc k0 hk, if_neg c]
end
theorem runsound_f (n : Int) (S : List (List Int)) (l : List S46) (hS : ∀ xs ∈ S, xs.length ≤ BIG) : ∃ c, ∀ k0, BIG < k0 → timesyncref55_Unsound.f (k0 + c) n S l = some (UNS n S l) := by
  unfold UNS
  by_cases h1 : n < 1
  · refine ⟨1, fun k0 hk => ?_⟩
    rw [if_pos (Or.inl h1)]
    unfold timesyncref55_Unsound.f
    rw [if_pos h1, timesyncref55_Unsound.j0, if_pos rfl]
  by_cases h2 : 24 < n
  · refine ⟨1, fun k0 hk => ?_⟩
    rw [if_pos (Or.inr h2)]
    unfold timesyncref55_Unsound.f
    rw [if_neg h1, decide_eq_true h2, timesyncref55_Unsound.j0, if_pos rfl]
  obtain ⟨m, rfl⟩ : ∃ m : Nat, n = m := ⟨n.toNat, by omega⟩
  obtain ⟨c, hc⟩ := r_l0 (n := m) hS (by omega) (NODES l) (fun x hx => (NODES_in l x hx).1) (NODES_len l) (NODES l).length 0 (List.replicate m false) (by simp) (by omega)
  refine ⟨c + 1, fun k0 hk => ?_⟩
  rw [if_neg (fun e => e.elim h1 h2), Int.toNat_natCast]
  unfold timesyncref55_Unsound.f
  rw [if_neg h1, show decide ((m : Int) > 24) = false from decide_eq_false h2, show k0 + (c + 1) = (k0 + c) + 1 by omega, timesyncref55_Unsound.j0, if_neg (by simp), if_pos (by omega), Int.toNat_natCast, if_pos (by omega), rnodes_f l _ (by unfold BIG at hk; omega), Option.bind_some]
  exact hc k0 hk
theorem many_l0 (S : List (List Int)) (hl : S.length ≤ BIG) : ∀ (d j : Nat) (v : Int) (k : Nat), j + d = S.length → d < k → ∃ b, timesynclaw55_many.l0 k v S (S.length : Int) j = some b
  | d, j, v, 0, hj, hk => by omega
  | 0, j, v, k + 1, hj, hk => by
    unfold timesynclaw55_many.l0
    rw [if_neg (by omega)]; exact ⟨_, rfl⟩
  | d + 1, j, v, k + 1, hj, hk => by
    unfold timesynclaw55_many.l0
    rw [if_pos (by omega), if_pos (by omega), if_pos (by omega), w1 j (by unfold BIG at hl; omega)]
    exact many_l0 S hl d (j + 1) _ k (by omega) (by omega)
theorem many_f (S : List (List Int)) (hl : S.length ≤ BIG) (k : Nat) (hk : S.length < k) : ∃ b, timesynclaw55_many.f k S = some b := many_l0 S hl S.length 0 0 k (by omega) hk
theorem UNS_len (n : Int) (S : List (List Int)) (l : List S46) : (UNS n S l).length ≤ 24 := by
  unfold UNS
  by_cases h : n < 1 ∨ 24 < n
  · rw [if_pos h]; simp
  · rw [if_neg h]; exact Nat.le_trans (pickL_len _ _) (by omega)
end Go.Proofs.Ytcnckfhibmlioaa.Fa
