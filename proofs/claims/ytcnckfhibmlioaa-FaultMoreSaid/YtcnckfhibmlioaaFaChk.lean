/- Check and Nodes, of the program and of the reference, without any program: one list of errors, one set of nodes. -/
import Derived.Test.YtcnckfhibmlioaaPFax10
namespace Go.Proofs.Ytcnckfhibmlioaa.Fa
open Go Go.RowKit Go.Proofs.Ytcnckfhibmlioaa.PFa Go.Proofs.Ytcnckfhibmlioaa.Ob Go.Proofs.YtcnckfhibmlioaaW.PrintWords
set_option linter.unusedVariables false
set_option linter.unusedSimpArgs false
/-- The error of one fault. -/
def chkA (a : S46) : Int := chkF a.f0 a.f1 a.f2 a.f3 a.f4
/-- The first error of a list. -/
def chkL : List S46 → Int
  | [] => 0
  | a :: r => if chkA a = 0 then chkL r else chkA a
def CHK (l : List S46) : Int := if l.length > 32 then 6 else chkL l
theorem rd_at (l : List S46) (j : Nat) (hj : j < l.length) : rd_T46 l (j : Int) = l[j] := by unfold rd_T46; rw [Int.toNat_natCast, List.getD_eq_getElem?_getD, List.getElem?_eq_getElem hj]; rfl
theorem step_w (i : Nat) (h : i ≤ 4000000) : wrap64 ((i : Int) + 1) = ((i + 1 : Nat) : Int) := by rw [w64_in (by omega) (by omega)]; omega
theorem check_l0 (l : List S46) (hl : l.length ≤ 32) : ∀ (k i : Nat), i ≤ l.length → l.length - i < k → fault_Check.l0 k l (l.length : Int) (i : Int) = some (chkL (l.drop i))
  | 0, i, _, h => by omega
  | k + 1, i, hi, hk => by
    unfold fault_Check.l0
    by_cases hlt : i < l.length
    · rw [if_pos (by omega), if_pos (by omega), if_pos (by omega), rd_at l i hlt, step_w i (by omega), List.drop_eq_getElem_cons hlt]
      show (some (chkA l[i])).bind _ = _
      rw [Option.bind_some]
      show _ = some (if chkA l[i] = 0 then chkL (l.drop (i + 1)) else chkA l[i])
      by_cases e : chkA l[i] = 0
      · rw [if_pos e, if_pos e]; exact check_l0 l hl k (i + 1) (by omega) (by omega)
      · rw [if_neg e, if_neg e]
    · rw [if_neg (by omega), List.drop_of_length_le (by omega)]; rfl
theorem check_f (l : List S46) (k : Nat) (hk : 32 < k) : fault_Check.f k l = some (CHK l) := by
  unfold fault_Check.f CHK
  by_cases h : l.length > 32
  · rw [if_pos (by omega), if_pos h]
  · rw [if_neg (by omega), if_neg h]; exact check_l0 l (by omega) k 0 (by omega) (by omega)
theorem within_r (a b c : Int) : timesyncref55_within.f a b c = some (decide (b ≤ a ∧ a ≤ c)) := by
  unfold timesyncref55_within.f
  by_cases h : b ≤ a
  · rw [if_pos h]; congr 1; exact decide_eq_decide.mpr ⟨fun e => ⟨h, e⟩, fun e => e.2⟩
  · rw [if_neg h, decide_eq_false (fun e => h e.1)]
/-- The value fits its kind. -/
theorem fits_f (k : Nat) (kd vl : Int) (h : 1 ≤ kd ∧ kd ≤ 9) : timesyncref55_fits.f (k + 1) kd vl = some (decide (rlo kd ≤ vl ∧ vl ≤ rhi kd)) := by
  unfold timesyncref55_fits.f timesyncref55_fits.j0
  simp only [within_r, Option.bind_some]
  by_cases e2 : kd = 2
  · subst e2; rfl
  by_cases e3 : kd = 3
  · subst e3; rfl
  have b3 : (kd == 3) = false := beq_eq_false_iff_ne.mpr e3
  rw [if_neg e2, b3, if_neg (by simp)]
  unfold rlo rhi
  by_cases e5 : kd = 5
  · subst e5; rfl
  by_cases e6 : kd = 6
  · subst e6; rfl
  by_cases e9 : kd = 9
  · subst e9; rfl
  rw [if_neg e5, if_neg e6, if_neg e9, if_neg (by omega), if_neg e5, if_neg (by omega), if_neg e5, if_neg e6]
  congr 1
  by_cases z : vl = 0
  · subst z; rfl
  · rw [beq_eq_false_iff_ne.mpr z, decide_eq_false (by omega)]
theorem rok_iff (kd : Int) : rok kd = decide (1 ≤ kd ∧ kd ≤ 9) := by
  unfold rok
  rw [Bool.decide_and]
theorem rcheck_l0 (l : List S46) (hl : l.length ≤ 32) : ∀ (k i : Nat), i ≤ l.length → 2 * (l.length - i) + 3 ≤ k → timesyncref55_Check.l0 k l (i : Int) = some (chkL (l.drop i))
  | 0, i, _, h => by omega
  | 1, i, _, h => by omega
  | k + 2, i, hi, hk => by
    by_cases hlt : i < l.length
    · have hj : ∀ (b : Bool) , timesyncref55_Check.j1 (k + 1) l (i : Int) b (l[i]).f0 (l[i]).f1 (l[i]).f2 (l[i]).f3 (l[i]).f4 = some (if b = true then 3 else if (l[i]).f2 < (l[i]).f1 then 12 else if rok (l[i]).f3 = false then 8 else if ¬ (rlo (l[i]).f3 ≤ (l[i]).f4 ∧ (l[i]).f4 ≤ rhi (l[i]).f3) then 3 else chkL (l.drop (i + 1))) := by
        intro b
        unfold timesyncref55_Check.j1
        by_cases hb : b = true
        · rw [if_pos hb, if_pos hb]
        rw [if_neg hb, if_neg hb]
        by_cases ho : (l[i]).f2 < (l[i]).f1
        · rw [if_pos ho, if_pos ho]
        rw [if_neg (by omega), if_neg ho, within_r, Option.bind_some, rok_iff]
        by_cases hr : 1 ≤ (l[i]).f3 ∧ (l[i]).f3 ≤ 9
        · obtain ⟨k', rfl⟩ : ∃ k', k = k' + 1 := ⟨k - 1, by omega⟩
          rw [decide_eq_true hr, if_pos rfl, if_neg (by simp), fits_f k' _ _ hr, Option.bind_some, step_w i (by omega)]
          by_cases hf : rlo (l[i]).f3 ≤ (l[i]).f4 ∧ (l[i]).f4 ≤ rhi (l[i]).f3
          · rw [decide_eq_true hf, if_pos rfl, if_neg (not_not_intro hf)]; exact rcheck_l0 l hl (k' + 1) (i + 1) (by omega) (by omega)
          · rw [decide_eq_false hf, if_neg (by simp), if_pos hf]
        · rw [decide_eq_false hr, if_neg (by simp), if_pos rfl]
      unfold timesyncref55_Check.l0
      rw [if_pos (by omega), if_pos (by omega), rd_at l i hlt, List.drop_eq_getElem_cons hlt]
      simp only [within_r, Option.bind_some, hj]
      show _ = some (if chkA l[i] = 0 then chkL (l.drop (i + 1)) else chkA l[i])
      unfold chkA chkF
      by_cases h1 : 0 ≤ (l[i]).f0 ∧ (l[i]).f0 ≤ 23
      · rw [decide_eq_true h1, if_pos rfl, if_neg (not_not_intro h1)]
        by_cases h2 : 0 ≤ (l[i]).f1 ∧ (l[i]).f1 ≤ 1125899906842624
        · rw [decide_eq_true h2, if_pos rfl, if_neg (not_not_intro h2)]
          by_cases h3 : 0 ≤ (l[i]).f2 ∧ (l[i]).f2 ≤ 1125899906842624
          · rw [decide_eq_true h3, if_neg (not_not_intro h3)]
            simp only [Bool.not_true, Bool.false_eq_true, if_false]
            by_cases h4 : (l[i]).f2 < (l[i]).f1
            · simp [h4]
            simp only [h4, if_false]
            by_cases h5 : rok (l[i]).f3 = false
            · simp [h5]
            simp only [h5, if_false]
            by_cases h6 : rlo (l[i]).f3 ≤ (l[i]).f4 ∧ (l[i]).f4 ≤ rhi (l[i]).f3
            · simp [h6]
            · simp [h6]
          · rw [decide_eq_false h3, if_pos h3]; simp
        · rw [decide_eq_false h2, if_pos h2]; simp
      · rw [decide_eq_false h1, if_pos h1]; simp
    · unfold timesyncref55_Check.l0
      rw [if_neg (by omega), List.drop_of_length_le (by omega)]; rfl
theorem rcheck_f (l : List S46) (k : Nat) (hk : 70 ≤ k) : timesyncref55_Check.f k l = some (CHK l) := by
  unfold timesyncref55_Check.f CHK
  by_cases h : l.length > 32
  · rw [if_pos (by omega), if_pos h]
  · rw [if_neg (by omega), if_neg h]; exact rcheck_l0 l (by omega) k 0 (by omega) (by omega)
theorem chkL_mem (l : List S46) (h : chkL l = 0) : ∀ a ∈ l, chkA a = 0 := by
  induction l with
  | nil => intro a ha; cases ha
  | cons b r ih =>
    unfold chkL at h
    by_cases e : chkA b = 0
    · rw [if_pos e] at h
      intro a ha
      rcases List.mem_cons.mp ha with rfl | ha
      · exact e
      · exact ih h a ha
    · rw [if_neg e] at h; exact absurd h e
theorem CHK_ok (l : List S46) (h : CHK l = 0) : l.length ≤ 32 ∧ ∀ a ∈ l, chkA a = 0 := by
  unfold CHK at h
  by_cases e : l.length > 32
  · rw [if_pos e] at h; exact absurd h (by decide)
  · rw [if_neg e] at h; exact ⟨by omega, chkL_mem l h⟩
/-- Node n has a fault. -/
def bad (l : List S46) (n : Nat) : Bool := l.any (fun a => a.f0 == (n : Int))
theorem hasL_get (l : List S46) (hn : ∀ a ∈ l, 0 ≤ a.f0 ∧ a.f0 ≤ 23) (n : Nat) (h : n < 24) : (hasL l).getD n false = bad l n := by
  have key : ∀ (l : List S46) (hn : ∀ a ∈ l, 0 ≤ a.f0 ∧ a.f0 ≤ 23) (h0 : List Bool) (hl : h0.length = 24), (l.foldl (fun h (a : S46) => h.set a.f0.toNat true) h0).getD n false = (h0.getD n false || bad l n) := by
    intro l
    induction l with
    | nil => intro _ h0 _; show _ = (_ || false); rw [Bool.or_false]; rfl
    | cons a r ih =>
      intro hn h0 hl
      rw [List.foldl_cons, ih (fun b hb => hn b (List.mem_cons_of_mem _ hb)) _ (by rw [List.length_set]; exact hl)]
      have ha := hn a List.mem_cons_self
      have e : (h0.set a.f0.toNat true).getD n false = (h0.getD n false || (a.f0 == (n : Int))) := by
        simp only [List.getD_eq_getElem?_getD, List.getElem?_set]
        by_cases c : a.f0.toNat = n
        · rw [if_pos c, if_pos (by omega)]
          have : (a.f0 == (n : Int)) = true := beq_iff_eq.mpr (by omega)
          rw [this, Bool.or_true]; rfl
        · rw [if_neg c]
          have : (a.f0 == (n : Int)) = false := beq_eq_false_iff_ne.mpr (by omega)
          rw [this, Bool.or_false]
      rw [e]
      show _ = (_ || ((a.f0 == (n : Int)) || bad r n))
      rw [Bool.or_assoc]
  have h24 := key l hn (List.replicate 24 false) (by simp)
  have e0 : (List.replicate 24 false).getD n false = false := by
    rw [List.getD_eq_getElem?_getD, List.getElem?_replicate, if_pos h]; rfl
  rw [e0, Bool.false_or] at h24
  exact h24
/-- The nodes that have faults. -/
def nodesL (l : List S46) (m : Nat) : List Int := ((List.range m).filter (bad l)).map (fun j : Nat => (j : Int))
theorem pick_nodes (l : List S46) (hn : ∀ a ∈ l, 0 ≤ a.f0 ∧ a.f0 ≤ 23) (m : Nat) (hm : m ≤ 24) : pickL (hasL l) m = nodesL l m := by
  unfold pickL nodesL
  congr 1
  apply List.filter_congr
  intro n h
  exact hasL_get l hn n (by have := List.mem_range.mp h; omega)
def NODES (l : List S46) : List Int := if CHK l = 0 then nodesL l 24 else []
theorem nodes_f (l : List S46) (k : Nat) (hk : 32 < k) : fault_Nodes.f k l = some (NODES l) := by
  unfold fault_Nodes.f NODES
  rw [check_f l k hk, Option.bind_some]
  by_cases h : CHK l = 0
  · rw [if_pos h, if_pos h, pick_nodes l (fun a ha => chkF_node ((CHK_ok l h).2 a ha)) 24 (by omega)]
  · rw [if_neg h, if_neg h]
theorem nodesL_yes (l : List S46) (m : Nat) (e : bad l m = true) : nodesL l (m + 1) = nodesL l m ++ [(m : Int)] := by
  unfold nodesL; rw [List.range_succ, List.filter_append, List.map_append]; simp only [List.filter_cons, e, if_true, List.filter_nil, List.map_cons, List.map_nil]
theorem nodesL_no (l : List S46) (m : Nat) (e : bad l m = false) : nodesL l (m + 1) = nodesL l m := by
  unfold nodesL; rw [List.range_succ, List.filter_append, List.map_append]; simp only [List.filter_cons, e, Bool.false_eq_true, if_false, List.filter_nil, List.map_nil, List.append_nil]
theorem nodesL_len (l : List S46) (m : Nat) : (nodesL l m).length ≤ m := by unfold nodesL; rw [List.length_map]; exact Nat.le_trans (List.length_filter_le _ _) (by simp)
theorem rnodes_l1 (l : List S46) (hl : l.length ≤ 32) (acc : List Int) (hacc : acc.length ≤ 24) (n : Nat) (hn : n < 24) (k0 : Nat) : ∀ (d i : Nat) (b : Bool), i + d = l.length → b = (l.take i).any (fun a => a.f0 == (n : Int)) →
    timesyncref55_Nodes.l1 (k0 + d + 1) l acc (n : Int) b (i : Int) = timesyncref55_Nodes.l0 k0 l (if bad l n = true then acc ++ [(n : Int)] else acc) ((n + 1 : Nat) : Int)
  | 0, i, b, hi, hb => by
    unfold timesyncref55_Nodes.l1
    have e : b = bad l n := by rw [hb, List.take_of_length_le (by omega)]; rfl
    rw [if_neg (by omega), step_w n (by omega), e]
    by_cases h : bad l n = true
    · rw [if_pos h, if_pos (by omega), if_pos h]
    · rw [if_neg h, if_neg h]
  | d + 1, i, b, hi, hb => by
    have hlt : i < l.length := by omega
    have tk : l.take (i + 1) = l.take i ++ [l[i]] := List.take_succ_eq_append_getElem hlt
    have e : k0 + (d + 1) + 1 = (k0 + d + 1) + 1 := by omega
    rw [e]
    conv => lhs; unfold timesyncref55_Nodes.l1
    rw [if_pos (by omega), step_w i (by omega), rd_at l i hlt]
    by_cases h : b = true
    · rw [if_pos h]
      exact rnodes_l1 l hl acc hacc n hn k0 d (i + 1) true (by omega) (by rw [tk, List.any_append, ← hb, h]; rfl)
    · rw [if_neg h, if_pos (by omega)]
      exact rnodes_l1 l hl acc hacc n hn k0 d (i + 1) _ (by omega) (by rw [tk, List.any_append, ← hb, (by simpa using h : b = false)]; simp)
theorem rnodes_l0 (l : List S46) (hl : l.length ≤ 32) : ∀ (d n : Nat) (k0 : Nat), n + d = 24 → timesyncref55_Nodes.l0 (k0 + d * (l.length + 2) + 1) l (nodesL l n) (n : Int) = some (nodesL l 24)
  | 0, n, k0, h => by
    unfold timesyncref55_Nodes.l0
    rw [if_neg (by omega)]
    obtain rfl : n = 24 := by omega
    rfl
  | d + 1, n, k0, h => by
    have e : k0 + (d + 1) * (l.length + 2) + 1 = ((k0 + d * (l.length + 2) + 1) + l.length + 1) + 1 := by rw [Nat.succ_mul]; omega
    rw [e]
    unfold timesyncref55_Nodes.l0
    rw [if_pos (by omega)]
    have := rnodes_l1 l hl (nodesL l n) (Nat.le_trans (nodesL_len l n) (by omega)) n (by omega) (k0 + d * (l.length + 2) + 1) l.length 0 false (by omega) rfl
    rw [show ((0 : Int)) = ((0 : Nat) : Int) from rfl, this]
    have e2 : (if bad l n = true then nodesL l n ++ [(n : Int)] else nodesL l n) = nodesL l (n + 1) := by
      by_cases c : bad l n = true
      · rw [if_pos c, nodesL_yes l n c]
      · rw [if_neg c, nodesL_no l n (by simpa using c)]
    rw [e2]
    exact rnodes_l0 l hl d (n + 1) k0 (by omega)
theorem rnodes_f (l : List S46) (k : Nat) (hk : 1000 ≤ k) : timesyncref55_Nodes.f k l = some (NODES l) := by
  unfold timesyncref55_Nodes.f NODES
  rw [rcheck_f l k (by omega), Option.bind_some]
  by_cases h : CHK l = 0
  · rw [if_pos h, if_pos h]
    have hl := (CHK_ok l h).1
    have hb : 24 * (l.length + 2) ≤ 816 := by omega
    obtain ⟨k0, rfl⟩ : ∃ k0, k = k0 + 24 * (l.length + 2) + 1 := ⟨k - (24 * (l.length + 2) + 1), by omega⟩
    exact rnodes_l0 l hl 24 0 k0 rfl
  · rw [if_neg h, if_neg h]
theorem equal_l0 (l : List Int) (hl : l.length ≤ 4000000) : ∀ (k i : Nat), i ≤ l.length → l.length - i < k → slices_Equal_int_int.l0 k l l (l.length : Int) (i : Int) = some true
  | 0, i, _, h => by omega
  | k + 1, i, hi, hk => by
    unfold slices_Equal_int_int.l0
    by_cases hlt : i < l.length
    · rw [if_pos (by omega), if_pos (by omega), if_pos (by omega), if_pos (by omega), if_pos rfl, step_w i (by omega)]
      exact equal_l0 l hl k (i + 1) (by omega) (by omega)
    · rw [if_neg (by omega)]
theorem equal_f (l : List Int) (hl : l.length ≤ 4000000) (k : Nat) (hk : l.length < k) : slices_Equal_int_int.f k l l = some true := by
  unfold slices_Equal_int_int.f
  rw [if_pos rfl]
  exact equal_l0 l hl k 0 (by omega) (by omega)
theorem NODES_len (l : List S46) : (NODES l).length ≤ 24 := by
  unfold NODES
  by_cases h : CHK l = 0
  · rw [if_pos h]; exact nodesL_len l 24
  · rw [if_neg h]; simp
theorem faultChecks_pure (l : List S46) : timesynclaw55_FaultChecks.f 1000 l = some true := by
  unfold timesynclaw55_FaultChecks.f
  rw [show timesynclaw55_long.f l = some (decide ((l.length : Int) > 200)) from rfl, Option.bind_some]
  by_cases h : (l.length : Int) > 200
  · rw [decide_eq_true h, if_pos rfl]; rfl
  · rw [decide_eq_false h, if_neg (by simp), check_f l 1000 (by omega), Option.bind_some, rcheck_f l 1000 (by omega), Option.bind_some, if_pos rfl, nodes_f l 1000 (by omega), Option.bind_some, rnodes_f l 1000 (by omega), Option.bind_some, equal_f _ (by have := NODES_len l; omega) 1000 (by have := NODES_len l; omega), Option.bind_some, if_pos rfl]
    rfl
end Go.Proofs.Ytcnckfhibmlioaa.Fa
